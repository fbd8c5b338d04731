/- Walks of the functions that the law FnTermText reaches, written by a program of this session. No condition but those that each states. -/
import Derived.Test.YtpnloocdeljmhaaOFnTermTextx0
import Derived.Test.YtpnloocdeljmhaaOFnTermTextx5
namespace Go.Proofs.Ytpnloocdeljmhaa.PFnTermText
open Go.RowKit Go.Proofs.YtpnloocdeljmhaaW.PrintWords Go.Proofs.YtpnloocdeljmhaaW.PrintLast Go.Proofs.YtpnloocdeljmhaaW.PrintMore
attribute [local go_sem] max2_int min2_int max_two min_two max_three min_three max_four min_four   -- for this text's walks alone
set_option linter.unusedVariables false
set_option linter.unusedSimpArgs false

/-! ### spec_l9Starts: function 65 -/
def spec_l9Starts.l0 : Nat → List (S34) → Int → Int → Option (Int)
  | 0, _, _, _ => none
  | k + 1, x0, x5, x6 => if x5 > 0 then (if 0 ≤ x6 then (if x6 < (x0.length : Int) then (if ((rd_T34 x0 x6).f0) = 0 then (spec_l9Starts.l0 k x0 (wrap64 (x5 - 1)) (wrap64 (x6 - 1))) else (if ((rd_T34 x0 x6).f0) = 1 then (spec_l9Starts.l0 k x0 (wrap64 (x5 - 1)) (wrap64 (x6 - 1))) else (spec_l9Starts.l0 k x0 (wrap64 (x5 + 1)) (wrap64 (x6 - 1))))) else (none)) else (none)) else (some (wrap64 (x6 + 1)))
def spec_l9Starts.f (k : Nat) (l0 : List (S34)) (a1 : Int) : Option (Int) := spec_l9Starts.l0 k l0 1 a1
set_option maxHeartbeats 8000000 in
set_option maxRecDepth 100000 in
theorem spec_l9Starts.calls (k : Nat) (A0 : Option Addr) (c0 : Nat) (l0 : List (S34)) (a1 : Int) (r : Int) (w : World) (hr0 : Kd.C k34 w A0 l0.length l0) (hc0 : l0.length ≤ c0) (h : spec_l9Starts.f k l0 a1 = some r) :
    Calls Try.prog 65 #[.slice A0 l0.length c0, .int .i64 a1] w fun e w' => e = .returned (.int .i64 r) ∧ Drawn0 w w' := by
  have HR0 := Aside0.mk hr0
  have HC0 := Aside0.mk hc0
  clear hr0 hc0
  have H : (spec_l9Starts.l0 k l0 1 a1) = some r := h
  clear h
  have H' := Aside0.mk H
  clear H
  go_enter Try.func65, Try.ntmps65
  go_wp2
  go_loopg [5, 6] k (fun kq v5 v6 w' => ∃ (x5_1 : Int) (x6_1 : Int), v5 = .int .i64 x5_1 ∧ v6 = .int .i64 x6_1 ∧ Aside0 (spec_l9Starts.l0 kq l0 x5_1 x6_1 = some r) ∧ Aside0 (kq ≤ k) ∧ Drawn0 w w')
  case atStart => exact ⟨(1), (a1), (by first | rfl | (simp; done) | (simp [*]; done)), (by first | rfl | (simp; done) | (simp [*]; done)), H', ⟨Nat.le_refl _⟩, by repeat (first | exact Drawn0.refl _ | apply Drawn0.step)⟩
  case round =>
    clear H'
    try clear p2
    obtain ⟨x5_1, x6_1, rfl, rfl, HA, HK1, ⟨m1, rfl⟩⟩ := hrel
    cases gk with
    | zero => exact absurd HA.out (by simp [spec_l9Starts.l0])
    | succ k1 =>
      have H := HA.out
      clear HA
      simp only [spec_l9Starts.l0] at H
      by_cases c3 : x5_1 > 0
      · rw [if_pos c3] at H
        have c3b0 : decide (0 < x5_1) = true := decide_eq_true c3
        clear c3
        by_cases c4 : 0 ≤ x6_1
        · rw [if_pos c4] at H
          have c4b0 : decide (0 ≤ x6_1) = true := decide_eq_true c4
          clear c4
          by_cases c5 : x6_1 < (l0.length : Int)
          · rw [if_pos c5] at H
            have c5b0 : decide (x6_1 < (l0.length : Int)) = true := decide_eq_true c5
            clear c5
            by_cases c6 : ((rd_T34 l0 x6_1).f0) = 0
            · rw [if_pos c6] at H
              have c6b0 : (((rd_T34 l0 x6_1).f0) == 0) = true := beq_iff_eq.mpr c6
              have c6b1 : (((rd_T34 l0 x6_1).f0) != 0) = false := bne_eq_false_iff_eq.mpr c6
              clear c6
              have H' := Aside0.mk H
              clear H
              have p173 : 0 ≤ (x6_1 : Int) := of_decide_eq_true (by first | (with_reducible assumption) | assumption)
              have q173 : x6_1 < (l0.length : Int) := of_decide_eq_true (by first | (with_reducible assumption) | assumption)
              obtain ⟨ad173, e173, hx173_0, hx173_1⟩ := at_T34 HR0.out x6_1 p173 q173
              cases e173
              replace p173 := eq_true p173
              replace q173 := eq_true q173
              go_wp2
              go_roundg k1
              case measure => have := HK1.out; omega
              case rel => exact ⟨(wrap64 (x5_1 - 1)), (wrap64 (x6_1 - 1)), (by first | rfl | (simp; done) | (simp [*]; done)), (by first | rfl | (simp; done) | (simp [*]; done)), H', ⟨by have := HK1.out; omega⟩, by repeat (first | exact Drawn0.refl _ | apply Drawn0.step)⟩
            · rw [if_neg c6] at H
              have c6b0 : (((rd_T34 l0 x6_1).f0) == 0) = false := beq_eq_false_iff_ne.mpr c6
              have c6b1 : (((rd_T34 l0 x6_1).f0) != 0) = true := bne_iff_ne.mpr c6
              by_cases c7 : ((rd_T34 l0 x6_1).f0) = 1
              · rw [if_pos c7] at H
                have c7b0 : (((rd_T34 l0 x6_1).f0) == 1) = true := beq_iff_eq.mpr c7
                have c7b1 : (((rd_T34 l0 x6_1).f0) != 1) = false := bne_eq_false_iff_eq.mpr c7
                clear c7
                have H' := Aside0.mk H
                clear H
                have p173 : 0 ≤ (x6_1 : Int) := of_decide_eq_true (by first | (with_reducible assumption) | assumption)
                have q173 : x6_1 < (l0.length : Int) := of_decide_eq_true (by first | (with_reducible assumption) | assumption)
                obtain ⟨ad173, e173, hx173_0, hx173_1⟩ := at_T34 HR0.out x6_1 p173 q173
                cases e173
                replace p173 := eq_true p173
                replace q173 := eq_true q173
                have p174 : 0 ≤ (x6_1 : Int) := of_decide_eq_true (by first | (with_reducible assumption) | assumption)
                have q174 : x6_1 < (l0.length : Int) := of_decide_eq_true (by first | (with_reducible assumption) | assumption)
                obtain ⟨ad174, e174, hx174_0, hx174_1⟩ := at_T34 HR0.out x6_1 p174 q174
                obtain rfl : ad173 = ad174 := (by injection e174)
                replace p174 := eq_true p174
                replace q174 := eq_true q174
                go_wp2
                go_roundg k1
                case measure => have := HK1.out; omega
                case rel => exact ⟨(wrap64 (x5_1 - 1)), (wrap64 (x6_1 - 1)), (by first | rfl | (simp; done) | (simp [*]; done)), (by first | rfl | (simp; done) | (simp [*]; done)), H', ⟨by have := HK1.out; omega⟩, by repeat (first | exact Drawn0.refl _ | apply Drawn0.step)⟩
              · rw [if_neg c7] at H
                have c7b0 : (((rd_T34 l0 x6_1).f0) == 1) = false := beq_eq_false_iff_ne.mpr c7
                have c7b1 : (((rd_T34 l0 x6_1).f0) != 1) = true := bne_iff_ne.mpr c7
                have H' := Aside0.mk H
                clear H
                have p173 : 0 ≤ (x6_1 : Int) := of_decide_eq_true (by first | (with_reducible assumption) | assumption)
                have q173 : x6_1 < (l0.length : Int) := of_decide_eq_true (by first | (with_reducible assumption) | assumption)
                obtain ⟨ad173, e173, hx173_0, hx173_1⟩ := at_T34 HR0.out x6_1 p173 q173
                cases e173
                replace p173 := eq_true p173
                replace q173 := eq_true q173
                have p174 : 0 ≤ (x6_1 : Int) := of_decide_eq_true (by first | (with_reducible assumption) | assumption)
                have q174 : x6_1 < (l0.length : Int) := of_decide_eq_true (by first | (with_reducible assumption) | assumption)
                obtain ⟨ad174, e174, hx174_0, hx174_1⟩ := at_T34 HR0.out x6_1 p174 q174
                obtain rfl : ad173 = ad174 := (by injection e174)
                replace p174 := eq_true p174
                replace q174 := eq_true q174
                go_wp2
                go_roundg k1
                case measure => have := HK1.out; omega
                case rel => exact ⟨(wrap64 (x5_1 + 1)), (wrap64 (x6_1 - 1)), (by first | rfl | (simp; done) | (simp [*]; done)), (by first | rfl | (simp; done) | (simp [*]; done)), H', ⟨by have := HK1.out; omega⟩, by repeat (first | exact Drawn0.refl _ | apply Drawn0.step)⟩
          · rw [if_neg c5] at H
            exact absurd H (by simp)
        · rw [if_neg c4] at H
          exact absurd H (by simp)
      · rw [if_neg c3] at H
        have c3b0 : decide (0 < x5_1) = false := decide_eq_false c3
        clear c3
        obtain rfl := Option.some.inj H
        go_wp2
        go_ret
        exact ⟨by first | rfl | (simp; done) | (simp [*]; done), by repeat (first | exact Drawn0.refl _ | apply Drawn0.step)⟩

/-! ### spec_l9Text: function 53 -/
def spec_l9Text.f : Nat → List (S34) → Option (ByteArray)
  | 0, _ => none
  | k + 1, l0 => if 0 ≤ (wrap64 ((l0.length : Int) - 1)) then (if (wrap64 ((l0.length : Int) - 1)) < (l0.length : Int) then (if ((rd_T34 l0 (wrap64 ((l0.length : Int) - 1))).f0) = 0 then (if 0 ≤ ((rd_T34 l0 (wrap64 ((l0.length : Int) - 1))).f1) then (if ((rd_T34 l0 (wrap64 ((l0.length : Int) - 1))).f1) ≤ (wrap64 (((rd_T34 l0 (wrap64 ((l0.length : Int) - 1))).f1) + 1)) then (if (wrap64 (((rd_T34 l0 (wrap64 ((l0.length : Int) - 1))).f1) + 1)) ≤ 3 then (some ((⟨#[97, 98, 99]⟩ : ByteArray).extract (((rd_T34 l0 (wrap64 ((l0.length : Int) - 1))).f1) : Int).toNat ((wrap64 (((rd_T34 l0 (wrap64 ((l0.length : Int) - 1))).f1) + 1)) : Int).toNat)) else (none)) else (none)) else (none)) else (if ((rd_T34 l0 (wrap64 ((l0.length : Int) - 1))).f0) = 1 then (some (⟨#[46]⟩ : ByteArray)) else ((spec_l9Starts.f k l0 (wrap64 ((wrap64 ((l0.length : Int) - 1)) - 1))).bind fun t178 => (if 0 ≤ t178 then (if t178 ≤ (l0.length : Int) then ((spec_l9Text.f k (l0.take (t178 : Int).toNat)).bind fun t183 => (if t178 ≤ (wrap64 ((l0.length : Int) - 1)) then (if (wrap64 ((l0.length : Int) - 1)) ≤ (l0.length : Int) then ((spec_l9Text.f k ((l0.take ((wrap64 ((l0.length : Int) - 1)) : Int).toNat).drop (t178 : Int).toNat)).bind fun t188 => (if ((rd_T34 l0 (wrap64 ((l0.length : Int) - 1))).f0) = 3 then (if 0 ≤ (wrap64 ((wrap64 ((l0.length : Int) - 1)) - 1)) then (if (wrap64 ((wrap64 ((l0.length : Int) - 1)) - 1)) < (l0.length : Int) then (if ((rd_T34 l0 (wrap64 ((wrap64 ((l0.length : Int) - 1)) - 1))).f0) = 3 then (if 1 + t188.size ≤ 9223372036854775807 then (if ((⟨#[40]⟩ : ByteArray) ++ t188).size + 1 ≤ 9223372036854775807 then (if t183.size + 1 ≤ 9223372036854775807 then (if (t183 ++ (⟨#[124]⟩ : ByteArray)).size + (((⟨#[40]⟩ : ByteArray) ++ t188) ++ (⟨#[41]⟩ : ByteArray)).size ≤ 9223372036854775807 then (some ((t183 ++ (⟨#[124]⟩ : ByteArray)) ++ (((⟨#[40]⟩ : ByteArray) ++ t188) ++ (⟨#[41]⟩ : ByteArray)))) else (none)) else (none)) else (none)) else (none)) else (if t183.size + 1 ≤ 9223372036854775807 then (if (t183 ++ (⟨#[124]⟩ : ByteArray)).size + t188.size ≤ 9223372036854775807 then (some ((t183 ++ (⟨#[124]⟩ : ByteArray)) ++ t188)) else (none)) else (none))) else (none)) else (none)) else (if 0 ≤ (wrap64 (t178 - 1)) then (if (wrap64 (t178 - 1)) < (l0.length : Int) then (if ((rd_T34 l0 (wrap64 (t178 - 1))).f0) = 3 then (if 1 + t183.size ≤ 9223372036854775807 then (if ((⟨#[40]⟩ : ByteArray) ++ t183).size + 1 ≤ 9223372036854775807 then (if 0 ≤ (wrap64 ((wrap64 ((l0.length : Int) - 1)) - 1)) then (if (wrap64 ((wrap64 ((l0.length : Int) - 1)) - 1)) < (l0.length : Int) then (if ((rd_T34 l0 (wrap64 ((wrap64 ((l0.length : Int) - 1)) - 1))).f0) = 3 then (if 1 + t188.size ≤ 9223372036854775807 then (if ((⟨#[40]⟩ : ByteArray) ++ t188).size + 1 ≤ 9223372036854775807 then (if (((⟨#[40]⟩ : ByteArray) ++ t183) ++ (⟨#[41]⟩ : ByteArray)).size + (((⟨#[40]⟩ : ByteArray) ++ t188) ++ (⟨#[41]⟩ : ByteArray)).size ≤ 9223372036854775807 then (some ((((⟨#[40]⟩ : ByteArray) ++ t183) ++ (⟨#[41]⟩ : ByteArray)) ++ (((⟨#[40]⟩ : ByteArray) ++ t188) ++ (⟨#[41]⟩ : ByteArray)))) else (none)) else (none)) else (none)) else (if ((rd_T34 l0 (wrap64 ((wrap64 ((l0.length : Int) - 1)) - 1))).f0) = 2 then (if 1 + t188.size ≤ 9223372036854775807 then (if ((⟨#[40]⟩ : ByteArray) ++ t188).size + 1 ≤ 9223372036854775807 then (if (((⟨#[40]⟩ : ByteArray) ++ t183) ++ (⟨#[41]⟩ : ByteArray)).size + (((⟨#[40]⟩ : ByteArray) ++ t188) ++ (⟨#[41]⟩ : ByteArray)).size ≤ 9223372036854775807 then (some ((((⟨#[40]⟩ : ByteArray) ++ t183) ++ (⟨#[41]⟩ : ByteArray)) ++ (((⟨#[40]⟩ : ByteArray) ++ t188) ++ (⟨#[41]⟩ : ByteArray)))) else (none)) else (none)) else (none)) else (if (((⟨#[40]⟩ : ByteArray) ++ t183) ++ (⟨#[41]⟩ : ByteArray)).size + t188.size ≤ 9223372036854775807 then (some ((((⟨#[40]⟩ : ByteArray) ++ t183) ++ (⟨#[41]⟩ : ByteArray)) ++ t188)) else (none)))) else (none)) else (none)) else (none)) else (none)) else (if 0 ≤ (wrap64 ((wrap64 ((l0.length : Int) - 1)) - 1)) then (if (wrap64 ((wrap64 ((l0.length : Int) - 1)) - 1)) < (l0.length : Int) then (if ((rd_T34 l0 (wrap64 ((wrap64 ((l0.length : Int) - 1)) - 1))).f0) = 3 then (if 1 + t188.size ≤ 9223372036854775807 then (if ((⟨#[40]⟩ : ByteArray) ++ t188).size + 1 ≤ 9223372036854775807 then (if t183.size + (((⟨#[40]⟩ : ByteArray) ++ t188) ++ (⟨#[41]⟩ : ByteArray)).size ≤ 9223372036854775807 then (some (t183 ++ (((⟨#[40]⟩ : ByteArray) ++ t188) ++ (⟨#[41]⟩ : ByteArray)))) else (none)) else (none)) else (none)) else (if ((rd_T34 l0 (wrap64 ((wrap64 ((l0.length : Int) - 1)) - 1))).f0) = 2 then (if 1 + t188.size ≤ 9223372036854775807 then (if ((⟨#[40]⟩ : ByteArray) ++ t188).size + 1 ≤ 9223372036854775807 then (if t183.size + (((⟨#[40]⟩ : ByteArray) ++ t188) ++ (⟨#[41]⟩ : ByteArray)).size ≤ 9223372036854775807 then (some (t183 ++ (((⟨#[40]⟩ : ByteArray) ++ t188) ++ (⟨#[41]⟩ : ByteArray)))) else (none)) else (none)) else (none)) else (if t183.size + t188.size ≤ 9223372036854775807 then (some (t183 ++ t188)) else (none)))) else (none)) else (none))) else (none)) else (none)))) else (none)) else (none))) else (none)) else (none))))) else (none)) else (none)
set_option maxHeartbeats 8000000 in
set_option maxRecDepth 100000 in
theorem spec_l9Text.calls (k : Nat) : ∀ (A0 : Option Addr) (c0 : Nat) (l0 : List (S34)) (r : ByteArray) (w : World) (hr0 : Kd.C k34 w A0 l0.length l0) (hc0 : l0.length ≤ c0) (h : spec_l9Text.f k l0 = some r),
    Calls Try.prog 53 #[.slice A0 l0.length c0] w fun e w' => e = .returned (.string r) ∧ Drawn0 w w' := by
  induction k using Nat.strongRecOn with
  | _ k ih =>
  intro A0 c0 l0 r w hr0 hc0 h
  cases k with
  | zero => exact absurd h (by simp [spec_l9Text.f])
  | succ k =>
  simp only [spec_l9Text.f] at h
  have HR0 := Aside0.mk hr0
  have HC0 := Aside0.mk hc0
  clear hr0 hc0
  have H : (if 0 ≤ (wrap64 ((l0.length : Int) - 1)) then (if (wrap64 ((l0.length : Int) - 1)) < (l0.length : Int) then (if ((rd_T34 l0 (wrap64 ((l0.length : Int) - 1))).f0) = 0 then (if 0 ≤ ((rd_T34 l0 (wrap64 ((l0.length : Int) - 1))).f1) then (if ((rd_T34 l0 (wrap64 ((l0.length : Int) - 1))).f1) ≤ (wrap64 (((rd_T34 l0 (wrap64 ((l0.length : Int) - 1))).f1) + 1)) then (if (wrap64 (((rd_T34 l0 (wrap64 ((l0.length : Int) - 1))).f1) + 1)) ≤ 3 then (some ((⟨#[97, 98, 99]⟩ : ByteArray).extract (((rd_T34 l0 (wrap64 ((l0.length : Int) - 1))).f1) : Int).toNat ((wrap64 (((rd_T34 l0 (wrap64 ((l0.length : Int) - 1))).f1) + 1)) : Int).toNat)) else (none)) else (none)) else (none)) else (if ((rd_T34 l0 (wrap64 ((l0.length : Int) - 1))).f0) = 1 then (some (⟨#[46]⟩ : ByteArray)) else ((spec_l9Starts.f k l0 (wrap64 ((wrap64 ((l0.length : Int) - 1)) - 1))).bind fun t178 => (if 0 ≤ t178 then (if t178 ≤ (l0.length : Int) then ((spec_l9Text.f k (l0.take (t178 : Int).toNat)).bind fun t183 => (if t178 ≤ (wrap64 ((l0.length : Int) - 1)) then (if (wrap64 ((l0.length : Int) - 1)) ≤ (l0.length : Int) then ((spec_l9Text.f k ((l0.take ((wrap64 ((l0.length : Int) - 1)) : Int).toNat).drop (t178 : Int).toNat)).bind fun t188 => (if ((rd_T34 l0 (wrap64 ((l0.length : Int) - 1))).f0) = 3 then (if 0 ≤ (wrap64 ((wrap64 ((l0.length : Int) - 1)) - 1)) then (if (wrap64 ((wrap64 ((l0.length : Int) - 1)) - 1)) < (l0.length : Int) then (if ((rd_T34 l0 (wrap64 ((wrap64 ((l0.length : Int) - 1)) - 1))).f0) = 3 then (if 1 + t188.size ≤ 9223372036854775807 then (if ((⟨#[40]⟩ : ByteArray) ++ t188).size + 1 ≤ 9223372036854775807 then (if t183.size + 1 ≤ 9223372036854775807 then (if (t183 ++ (⟨#[124]⟩ : ByteArray)).size + (((⟨#[40]⟩ : ByteArray) ++ t188) ++ (⟨#[41]⟩ : ByteArray)).size ≤ 9223372036854775807 then (some ((t183 ++ (⟨#[124]⟩ : ByteArray)) ++ (((⟨#[40]⟩ : ByteArray) ++ t188) ++ (⟨#[41]⟩ : ByteArray)))) else (none)) else (none)) else (none)) else (none)) else (if t183.size + 1 ≤ 9223372036854775807 then (if (t183 ++ (⟨#[124]⟩ : ByteArray)).size + t188.size ≤ 9223372036854775807 then (some ((t183 ++ (⟨#[124]⟩ : ByteArray)) ++ t188)) else (none)) else (none))) else (none)) else (none)) else (if 0 ≤ (wrap64 (t178 - 1)) then (if (wrap64 (t178 - 1)) < (l0.length : Int) then (if ((rd_T34 l0 (wrap64 (t178 - 1))).f0) = 3 then (if 1 + t183.size ≤ 9223372036854775807 then (if ((⟨#[40]⟩ : ByteArray) ++ t183).size + 1 ≤ 9223372036854775807 then (if 0 ≤ (wrap64 ((wrap64 ((l0.length : Int) - 1)) - 1)) then (if (wrap64 ((wrap64 ((l0.length : Int) - 1)) - 1)) < (l0.length : Int) then (if ((rd_T34 l0 (wrap64 ((wrap64 ((l0.length : Int) - 1)) - 1))).f0) = 3 then (if 1 + t188.size ≤ 9223372036854775807 then (if ((⟨#[40]⟩ : ByteArray) ++ t188).size + 1 ≤ 9223372036854775807 then (if (((⟨#[40]⟩ : ByteArray) ++ t183) ++ (⟨#[41]⟩ : ByteArray)).size + (((⟨#[40]⟩ : ByteArray) ++ t188) ++ (⟨#[41]⟩ : ByteArray)).size ≤ 9223372036854775807 then (some ((((⟨#[40]⟩ : ByteArray) ++ t183) ++ (⟨#[41]⟩ : ByteArray)) ++ (((⟨#[40]⟩ : ByteArray) ++ t188) ++ (⟨#[41]⟩ : ByteArray)))) else (none)) else (none)) else (none)) else (if ((rd_T34 l0 (wrap64 ((wrap64 ((l0.length : Int) - 1)) - 1))).f0) = 2 then (if 1 + t188.size ≤ 9223372036854775807 then (if ((⟨#[40]⟩ : ByteArray) ++ t188).size + 1 ≤ 9223372036854775807 then (if (((⟨#[40]⟩ : ByteArray) ++ t183) ++ (⟨#[41]⟩ : ByteArray)).size + (((⟨#[40]⟩ : ByteArray) ++ t188) ++ (⟨#[41]⟩ : ByteArray)).size ≤ 9223372036854775807 then (some ((((⟨#[40]⟩ : ByteArray) ++ t183) ++ (⟨#[41]⟩ : ByteArray)) ++ (((⟨#[40]⟩ : ByteArray) ++ t188) ++ (⟨#[41]⟩ : ByteArray)))) else (none)) else (none)) else (none)) else (if (((⟨#[40]⟩ : ByteArray) ++ t183) ++ (⟨#[41]⟩ : ByteArray)).size + t188.size ≤ 9223372036854775807 then (some ((((⟨#[40]⟩ : ByteArray) ++ t183) ++ (⟨#[41]⟩ : ByteArray)) ++ t188)) else (none)))) else (none)) else (none)) else (none)) else (none)) else (if 0 ≤ (wrap64 ((wrap64 ((l0.length : Int) - 1)) - 1)) then (if (wrap64 ((wrap64 ((l0.length : Int) - 1)) - 1)) < (l0.length : Int) then (if ((rd_T34 l0 (wrap64 ((wrap64 ((l0.length : Int) - 1)) - 1))).f0) = 3 then (if 1 + t188.size ≤ 9223372036854775807 then (if ((⟨#[40]⟩ : ByteArray) ++ t188).size + 1 ≤ 9223372036854775807 then (if t183.size + (((⟨#[40]⟩ : ByteArray) ++ t188) ++ (⟨#[41]⟩ : ByteArray)).size ≤ 9223372036854775807 then (some (t183 ++ (((⟨#[40]⟩ : ByteArray) ++ t188) ++ (⟨#[41]⟩ : ByteArray)))) else (none)) else (none)) else (none)) else (if ((rd_T34 l0 (wrap64 ((wrap64 ((l0.length : Int) - 1)) - 1))).f0) = 2 then (if 1 + t188.size ≤ 9223372036854775807 then (if ((⟨#[40]⟩ : ByteArray) ++ t188).size + 1 ≤ 9223372036854775807 then (if t183.size + (((⟨#[40]⟩ : ByteArray) ++ t188) ++ (⟨#[41]⟩ : ByteArray)).size ≤ 9223372036854775807 then (some (t183 ++ (((⟨#[40]⟩ : ByteArray) ++ t188) ++ (⟨#[41]⟩ : ByteArray)))) else (none)) else (none)) else (none)) else (if t183.size + t188.size ≤ 9223372036854775807 then (some (t183 ++ t188)) else (none)))) else (none)) else (none))) else (none)) else (none)))) else (none)) else (none))) else (none)) else (none))))) else (none)) else (none)) = some r := h
  clear h
  obtain ⟨ji2, hji2⟩ : ∃ j_ : Int, (wrap64 ((l0.length : Int) - 1)) = j_ := ⟨_, rfl⟩
  replace H : (if 0 ≤ (ji2) then (if (ji2) < (l0.length : Int) then (if ((rd_T34 l0 (ji2)).f0) = 0 then (if 0 ≤ ((rd_T34 l0 (ji2)).f1) then (if ((rd_T34 l0 (ji2)).f1) ≤ (wrap64 (((rd_T34 l0 (ji2)).f1) + 1)) then (if (wrap64 (((rd_T34 l0 (ji2)).f1) + 1)) ≤ 3 then (some ((⟨#[97, 98, 99]⟩ : ByteArray).extract (((rd_T34 l0 (ji2)).f1) : Int).toNat ((wrap64 (((rd_T34 l0 (ji2)).f1) + 1)) : Int).toNat)) else (none)) else (none)) else (none)) else (if ((rd_T34 l0 (ji2)).f0) = 1 then (some (⟨#[46]⟩ : ByteArray)) else ((spec_l9Starts.f k l0 (wrap64 ((ji2) - 1))).bind fun t178 => (if 0 ≤ t178 then (if t178 ≤ (l0.length : Int) then ((spec_l9Text.f k (l0.take (t178 : Int).toNat)).bind fun t183 => (if t178 ≤ (ji2) then (if (ji2) ≤ (l0.length : Int) then ((spec_l9Text.f k ((l0.take ((ji2) : Int).toNat).drop (t178 : Int).toNat)).bind fun t188 => (if ((rd_T34 l0 (ji2)).f0) = 3 then (if 0 ≤ (wrap64 ((ji2) - 1)) then (if (wrap64 ((ji2) - 1)) < (l0.length : Int) then (if ((rd_T34 l0 (wrap64 ((ji2) - 1))).f0) = 3 then (if 1 + t188.size ≤ 9223372036854775807 then (if ((⟨#[40]⟩ : ByteArray) ++ t188).size + 1 ≤ 9223372036854775807 then (if t183.size + 1 ≤ 9223372036854775807 then (if (t183 ++ (⟨#[124]⟩ : ByteArray)).size + (((⟨#[40]⟩ : ByteArray) ++ t188) ++ (⟨#[41]⟩ : ByteArray)).size ≤ 9223372036854775807 then (some ((t183 ++ (⟨#[124]⟩ : ByteArray)) ++ (((⟨#[40]⟩ : ByteArray) ++ t188) ++ (⟨#[41]⟩ : ByteArray)))) else (none)) else (none)) else (none)) else (none)) else (if t183.size + 1 ≤ 9223372036854775807 then (if (t183 ++ (⟨#[124]⟩ : ByteArray)).size + t188.size ≤ 9223372036854775807 then (some ((t183 ++ (⟨#[124]⟩ : ByteArray)) ++ t188)) else (none)) else (none))) else (none)) else (none)) else (if 0 ≤ (wrap64 (t178 - 1)) then (if (wrap64 (t178 - 1)) < (l0.length : Int) then (if ((rd_T34 l0 (wrap64 (t178 - 1))).f0) = 3 then (if 1 + t183.size ≤ 9223372036854775807 then (if ((⟨#[40]⟩ : ByteArray) ++ t183).size + 1 ≤ 9223372036854775807 then (if 0 ≤ (wrap64 ((ji2) - 1)) then (if (wrap64 ((ji2) - 1)) < (l0.length : Int) then (if ((rd_T34 l0 (wrap64 ((ji2) - 1))).f0) = 3 then (if 1 + t188.size ≤ 9223372036854775807 then (if ((⟨#[40]⟩ : ByteArray) ++ t188).size + 1 ≤ 9223372036854775807 then (if (((⟨#[40]⟩ : ByteArray) ++ t183) ++ (⟨#[41]⟩ : ByteArray)).size + (((⟨#[40]⟩ : ByteArray) ++ t188) ++ (⟨#[41]⟩ : ByteArray)).size ≤ 9223372036854775807 then (some ((((⟨#[40]⟩ : ByteArray) ++ t183) ++ (⟨#[41]⟩ : ByteArray)) ++ (((⟨#[40]⟩ : ByteArray) ++ t188) ++ (⟨#[41]⟩ : ByteArray)))) else (none)) else (none)) else (none)) else (if ((rd_T34 l0 (wrap64 ((ji2) - 1))).f0) = 2 then (if 1 + t188.size ≤ 9223372036854775807 then (if ((⟨#[40]⟩ : ByteArray) ++ t188).size + 1 ≤ 9223372036854775807 then (if (((⟨#[40]⟩ : ByteArray) ++ t183) ++ (⟨#[41]⟩ : ByteArray)).size + (((⟨#[40]⟩ : ByteArray) ++ t188) ++ (⟨#[41]⟩ : ByteArray)).size ≤ 9223372036854775807 then (some ((((⟨#[40]⟩ : ByteArray) ++ t183) ++ (⟨#[41]⟩ : ByteArray)) ++ (((⟨#[40]⟩ : ByteArray) ++ t188) ++ (⟨#[41]⟩ : ByteArray)))) else (none)) else (none)) else (none)) else (if (((⟨#[40]⟩ : ByteArray) ++ t183) ++ (⟨#[41]⟩ : ByteArray)).size + t188.size ≤ 9223372036854775807 then (some ((((⟨#[40]⟩ : ByteArray) ++ t183) ++ (⟨#[41]⟩ : ByteArray)) ++ t188)) else (none)))) else (none)) else (none)) else (none)) else (none)) else (if 0 ≤ (wrap64 ((ji2) - 1)) then (if (wrap64 ((ji2) - 1)) < (l0.length : Int) then (if ((rd_T34 l0 (wrap64 ((ji2) - 1))).f0) = 3 then (if 1 + t188.size ≤ 9223372036854775807 then (if ((⟨#[40]⟩ : ByteArray) ++ t188).size + 1 ≤ 9223372036854775807 then (if t183.size + (((⟨#[40]⟩ : ByteArray) ++ t188) ++ (⟨#[41]⟩ : ByteArray)).size ≤ 9223372036854775807 then (some (t183 ++ (((⟨#[40]⟩ : ByteArray) ++ t188) ++ (⟨#[41]⟩ : ByteArray)))) else (none)) else (none)) else (none)) else (if ((rd_T34 l0 (wrap64 ((ji2) - 1))).f0) = 2 then (if 1 + t188.size ≤ 9223372036854775807 then (if ((⟨#[40]⟩ : ByteArray) ++ t188).size + 1 ≤ 9223372036854775807 then (if t183.size + (((⟨#[40]⟩ : ByteArray) ++ t188) ++ (⟨#[41]⟩ : ByteArray)).size ≤ 9223372036854775807 then (some (t183 ++ (((⟨#[40]⟩ : ByteArray) ++ t188) ++ (⟨#[41]⟩ : ByteArray)))) else (none)) else (none)) else (none)) else (if t183.size + t188.size ≤ 9223372036854775807 then (some (t183 ++ t188)) else (none)))) else (none)) else (none))) else (none)) else (none)))) else (none)) else (none))) else (none)) else (none))))) else (none)) else (none)) = some r := by first | (rw [hji2] at H; exact H) | (simp only [hji2] at H ⊢; exact H)
  have hji2w : (IntKind.i64.wrap ((l0.length : Int) - 1)) = ji2 := (i64_w _).trans hji2
  by_cases c3 : 0 ≤ (ji2)
  · rw [if_pos c3] at H
    have c3b0 : decide (0 ≤ (ji2)) = true := decide_eq_true c3
    clear c3
    by_cases c4 : (ji2) < (l0.length : Int)
    · rw [if_pos c4] at H
      have c4b0 : decide ((ji2) < (l0.length : Int)) = true := decide_eq_true c4
      clear c4
      by_cases c5 : ((rd_T34 l0 (ji2)).f0) = 0
      · rw [if_pos c5] at H
        have c5b0 : (((rd_T34 l0 (ji2)).f0) == 0) = true := beq_iff_eq.mpr c5
        have c5b1 : (((rd_T34 l0 (ji2)).f0) != 0) = false := bne_eq_false_iff_eq.mpr c5
        clear c5
        by_cases c6 : 0 ≤ ((rd_T34 l0 (ji2)).f1)
        · rw [if_pos c6] at H
          have c6b0 := eq_true c6
          have c6b1 : decide (0 ≤ ((rd_T34 l0 (ji2)).f1)) = true := decide_eq_true c6
          clear c6
          by_cases c7 : ((rd_T34 l0 (ji2)).f1) ≤ (wrap64 (((rd_T34 l0 (ji2)).f1) + 1))
          · rw [if_pos c7] at H
            have c7b0 := eq_true c7
            have c7b1 : decide (((rd_T34 l0 (ji2)).f1) ≤ (wrap64 (((rd_T34 l0 (ji2)).f1) + 1))) = true := decide_eq_true c7
            by_cases c8 : (wrap64 (((rd_T34 l0 (ji2)).f1) + 1)) ≤ 3
            · rw [if_pos c8] at H
              have c8b0 := eq_true c8
              have c8b1 : decide ((wrap64 (((rd_T34 l0 (ji2)).f1) + 1)) ≤ 3) = true := decide_eq_true c8
              obtain rfl := Option.some.inj H
              have p175 : 0 ≤ ((ji2) : Int) := of_decide_eq_true (by first | (with_reducible assumption) | assumption)
              have q175 : (ji2) < (l0.length : Int) := of_decide_eq_true (by first | (with_reducible assumption) | assumption)
              obtain ⟨ad175, e175, hx175_0, hx175_1⟩ := at_T34 HR0.out (ji2) p175 q175
              cases e175
              replace p175 := eq_true p175
              replace q175 := eq_true q175
              have p176 : 0 ≤ ((ji2) : Int) := of_decide_eq_true (by first | (with_reducible assumption) | assumption)
              have q176 : (ji2) < (l0.length : Int) := of_decide_eq_true (by first | (with_reducible assumption) | assumption)
              obtain ⟨ad176, e176, hx176_0, hx176_1⟩ := at_T34 HR0.out (ji2) p176 q176
              obtain rfl : ad175 = ad176 := (by injection e176)
              replace p176 := eq_true p176
              replace q176 := eq_true q176
              have p177 : 0 ≤ ((ji2) : Int) := of_decide_eq_true (by first | (with_reducible assumption) | assumption)
              have q177 : (ji2) < (l0.length : Int) := of_decide_eq_true (by first | (with_reducible assumption) | assumption)
              obtain ⟨ad177, e177, hx177_0, hx177_1⟩ := at_T34 HR0.out (ji2) p177 q177
              obtain rfl : ad175 = ad177 := (by injection e177)
              replace p177 := eq_true p177
              replace q177 := eq_true q177
              go_enter Try.func53, Try.ntmps53
              go_wp2
              repeat (go_quiet (fail); try go_wp2)
              go_ret
              exact ⟨by first | rfl | (simp; done) | (simp only [← hji2] <;> (first | rfl | simp)) | (simp [*]; done), by repeat (first | exact Drawn0.refl _ | apply Drawn0.step)⟩
            · rw [if_neg c8] at H
              exact absurd H (by simp)
          · rw [if_neg c7] at H
            exact absurd H (by simp)
        · rw [if_neg c6] at H
          exact absurd H (by simp)
      · rw [if_neg c5] at H
        have c5b0 : (((rd_T34 l0 (ji2)).f0) == 0) = false := beq_eq_false_iff_ne.mpr c5
        have c5b1 : (((rd_T34 l0 (ji2)).f0) != 0) = true := bne_iff_ne.mpr c5
        by_cases c9 : ((rd_T34 l0 (ji2)).f0) = 1
        · rw [if_pos c9] at H
          have c9b0 : (((rd_T34 l0 (ji2)).f0) == 1) = true := beq_iff_eq.mpr c9
          have c9b1 : (((rd_T34 l0 (ji2)).f0) != 1) = false := bne_eq_false_iff_eq.mpr c9
          clear c9
          obtain rfl := Option.some.inj H
          have p175 : 0 ≤ ((ji2) : Int) := of_decide_eq_true (by first | (with_reducible assumption) | assumption)
          have q175 : (ji2) < (l0.length : Int) := of_decide_eq_true (by first | (with_reducible assumption) | assumption)
          obtain ⟨ad175, e175, hx175_0, hx175_1⟩ := at_T34 HR0.out (ji2) p175 q175
          cases e175
          replace p175 := eq_true p175
          replace q175 := eq_true q175
          go_enter Try.func53, Try.ntmps53
          go_wp2
          go_ret
          exact ⟨by first | rfl | (simp; done) | (simp only [← hji2] <;> (first | rfl | simp)) | (simp [*]; done), by repeat (first | exact Drawn0.refl _ | apply Drawn0.step)⟩
        · rw [if_neg c9] at H
          have c9b0 : (((rd_T34 l0 (ji2)).f0) == 1) = false := beq_eq_false_iff_ne.mpr c9
          have c9b1 : (((rd_T34 l0 (ji2)).f0) != 1) = true := bne_iff_ne.mpr c9
          replace H := Option.bind_eq_some_iff.mp H
          obtain ⟨t178, A100, H⟩ := H
          replace H : (if 0 ≤ t178 then (if t178 ≤ (l0.length : Int) then ((spec_l9Text.f k (l0.take (t178 : Int).toNat)).bind fun t183 => (if t178 ≤ (ji2) then (if (ji2) ≤ (l0.length : Int) then ((spec_l9Text.f k ((l0.take ((ji2) : Int).toNat).drop (t178 : Int).toNat)).bind fun t188 => (if ((rd_T34 l0 (ji2)).f0) = 3 then (if 0 ≤ (wrap64 ((ji2) - 1)) then (if (wrap64 ((ji2) - 1)) < (l0.length : Int) then (if ((rd_T34 l0 (wrap64 ((ji2) - 1))).f0) = 3 then (if 1 + t188.size ≤ 9223372036854775807 then (if ((⟨#[40]⟩ : ByteArray) ++ t188).size + 1 ≤ 9223372036854775807 then (if t183.size + 1 ≤ 9223372036854775807 then (if (t183 ++ (⟨#[124]⟩ : ByteArray)).size + (((⟨#[40]⟩ : ByteArray) ++ t188) ++ (⟨#[41]⟩ : ByteArray)).size ≤ 9223372036854775807 then (some ((t183 ++ (⟨#[124]⟩ : ByteArray)) ++ (((⟨#[40]⟩ : ByteArray) ++ t188) ++ (⟨#[41]⟩ : ByteArray)))) else (none)) else (none)) else (none)) else (none)) else (if t183.size + 1 ≤ 9223372036854775807 then (if (t183 ++ (⟨#[124]⟩ : ByteArray)).size + t188.size ≤ 9223372036854775807 then (some ((t183 ++ (⟨#[124]⟩ : ByteArray)) ++ t188)) else (none)) else (none))) else (none)) else (none)) else (if 0 ≤ (wrap64 (t178 - 1)) then (if (wrap64 (t178 - 1)) < (l0.length : Int) then (if ((rd_T34 l0 (wrap64 (t178 - 1))).f0) = 3 then (if 1 + t183.size ≤ 9223372036854775807 then (if ((⟨#[40]⟩ : ByteArray) ++ t183).size + 1 ≤ 9223372036854775807 then (if 0 ≤ (wrap64 ((ji2) - 1)) then (if (wrap64 ((ji2) - 1)) < (l0.length : Int) then (if ((rd_T34 l0 (wrap64 ((ji2) - 1))).f0) = 3 then (if 1 + t188.size ≤ 9223372036854775807 then (if ((⟨#[40]⟩ : ByteArray) ++ t188).size + 1 ≤ 9223372036854775807 then (if (((⟨#[40]⟩ : ByteArray) ++ t183) ++ (⟨#[41]⟩ : ByteArray)).size + (((⟨#[40]⟩ : ByteArray) ++ t188) ++ (⟨#[41]⟩ : ByteArray)).size ≤ 9223372036854775807 then (some ((((⟨#[40]⟩ : ByteArray) ++ t183) ++ (⟨#[41]⟩ : ByteArray)) ++ (((⟨#[40]⟩ : ByteArray) ++ t188) ++ (⟨#[41]⟩ : ByteArray)))) else (none)) else (none)) else (none)) else (if ((rd_T34 l0 (wrap64 ((ji2) - 1))).f0) = 2 then (if 1 + t188.size ≤ 9223372036854775807 then (if ((⟨#[40]⟩ : ByteArray) ++ t188).size + 1 ≤ 9223372036854775807 then (if (((⟨#[40]⟩ : ByteArray) ++ t183) ++ (⟨#[41]⟩ : ByteArray)).size + (((⟨#[40]⟩ : ByteArray) ++ t188) ++ (⟨#[41]⟩ : ByteArray)).size ≤ 9223372036854775807 then (some ((((⟨#[40]⟩ : ByteArray) ++ t183) ++ (⟨#[41]⟩ : ByteArray)) ++ (((⟨#[40]⟩ : ByteArray) ++ t188) ++ (⟨#[41]⟩ : ByteArray)))) else (none)) else (none)) else (none)) else (if (((⟨#[40]⟩ : ByteArray) ++ t183) ++ (⟨#[41]⟩ : ByteArray)).size + t188.size ≤ 9223372036854775807 then (some ((((⟨#[40]⟩ : ByteArray) ++ t183) ++ (⟨#[41]⟩ : ByteArray)) ++ t188)) else (none)))) else (none)) else (none)) else (none)) else (none)) else (if 0 ≤ (wrap64 ((ji2) - 1)) then (if (wrap64 ((ji2) - 1)) < (l0.length : Int) then (if ((rd_T34 l0 (wrap64 ((ji2) - 1))).f0) = 3 then (if 1 + t188.size ≤ 9223372036854775807 then (if ((⟨#[40]⟩ : ByteArray) ++ t188).size + 1 ≤ 9223372036854775807 then (if t183.size + (((⟨#[40]⟩ : ByteArray) ++ t188) ++ (⟨#[41]⟩ : ByteArray)).size ≤ 9223372036854775807 then (some (t183 ++ (((⟨#[40]⟩ : ByteArray) ++ t188) ++ (⟨#[41]⟩ : ByteArray)))) else (none)) else (none)) else (none)) else (if ((rd_T34 l0 (wrap64 ((ji2) - 1))).f0) = 2 then (if 1 + t188.size ≤ 9223372036854775807 then (if ((⟨#[40]⟩ : ByteArray) ++ t188).size + 1 ≤ 9223372036854775807 then (if t183.size + (((⟨#[40]⟩ : ByteArray) ++ t188) ++ (⟨#[41]⟩ : ByteArray)).size ≤ 9223372036854775807 then (some (t183 ++ (((⟨#[40]⟩ : ByteArray) ++ t188) ++ (⟨#[41]⟩ : ByteArray)))) else (none)) else (none)) else (none)) else (if t183.size + t188.size ≤ 9223372036854775807 then (some (t183 ++ t188)) else (none)))) else (none)) else (none))) else (none)) else (none)))) else (none)) else (none))) else (none)) else (none)) = some r := H
          have A10 := Aside0.mk A100
          clear A100
          by_cases c11 : 0 ≤ t178
          · rw [if_pos c11] at H
            have c11b0 := eq_true c11
            have c11b1 : decide (0 ≤ t178) = true := decide_eq_true c11
            clear c11
            by_cases c12 : t178 ≤ (l0.length : Int)
            · rw [if_pos c12] at H
              have c12b0 := eq_true c12
              have c12b1 : decide (t178 ≤ (l0.length : Int)) = true := decide_eq_true c12
              clear c12
              obtain ⟨y179, hy179⟩ : ∃ y_ : List (S34), y_ = (l0.take (t178 : Int).toNat) := ⟨_, rfl⟩
              replace H : ((spec_l9Text.f k y179).bind fun t183 => (if t178 ≤ (ji2) then (if (ji2) ≤ (l0.length : Int) then ((spec_l9Text.f k ((l0.take ((ji2) : Int).toNat).drop (t178 : Int).toNat)).bind fun t188 => (if ((rd_T34 l0 (ji2)).f0) = 3 then (if 0 ≤ (wrap64 ((ji2) - 1)) then (if (wrap64 ((ji2) - 1)) < (l0.length : Int) then (if ((rd_T34 l0 (wrap64 ((ji2) - 1))).f0) = 3 then (if 1 + t188.size ≤ 9223372036854775807 then (if ((⟨#[40]⟩ : ByteArray) ++ t188).size + 1 ≤ 9223372036854775807 then (if t183.size + 1 ≤ 9223372036854775807 then (if (t183 ++ (⟨#[124]⟩ : ByteArray)).size + (((⟨#[40]⟩ : ByteArray) ++ t188) ++ (⟨#[41]⟩ : ByteArray)).size ≤ 9223372036854775807 then (some ((t183 ++ (⟨#[124]⟩ : ByteArray)) ++ (((⟨#[40]⟩ : ByteArray) ++ t188) ++ (⟨#[41]⟩ : ByteArray)))) else (none)) else (none)) else (none)) else (none)) else (if t183.size + 1 ≤ 9223372036854775807 then (if (t183 ++ (⟨#[124]⟩ : ByteArray)).size + t188.size ≤ 9223372036854775807 then (some ((t183 ++ (⟨#[124]⟩ : ByteArray)) ++ t188)) else (none)) else (none))) else (none)) else (none)) else (if 0 ≤ (wrap64 (t178 - 1)) then (if (wrap64 (t178 - 1)) < (l0.length : Int) then (if ((rd_T34 l0 (wrap64 (t178 - 1))).f0) = 3 then (if 1 + t183.size ≤ 9223372036854775807 then (if ((⟨#[40]⟩ : ByteArray) ++ t183).size + 1 ≤ 9223372036854775807 then (if 0 ≤ (wrap64 ((ji2) - 1)) then (if (wrap64 ((ji2) - 1)) < (l0.length : Int) then (if ((rd_T34 l0 (wrap64 ((ji2) - 1))).f0) = 3 then (if 1 + t188.size ≤ 9223372036854775807 then (if ((⟨#[40]⟩ : ByteArray) ++ t188).size + 1 ≤ 9223372036854775807 then (if (((⟨#[40]⟩ : ByteArray) ++ t183) ++ (⟨#[41]⟩ : ByteArray)).size + (((⟨#[40]⟩ : ByteArray) ++ t188) ++ (⟨#[41]⟩ : ByteArray)).size ≤ 9223372036854775807 then (some ((((⟨#[40]⟩ : ByteArray) ++ t183) ++ (⟨#[41]⟩ : ByteArray)) ++ (((⟨#[40]⟩ : ByteArray) ++ t188) ++ (⟨#[41]⟩ : ByteArray)))) else (none)) else (none)) else (none)) else (if ((rd_T34 l0 (wrap64 ((ji2) - 1))).f0) = 2 then (if 1 + t188.size ≤ 9223372036854775807 then (if ((⟨#[40]⟩ : ByteArray) ++ t188).size + 1 ≤ 9223372036854775807 then (if (((⟨#[40]⟩ : ByteArray) ++ t183) ++ (⟨#[41]⟩ : ByteArray)).size + (((⟨#[40]⟩ : ByteArray) ++ t188) ++ (⟨#[41]⟩ : ByteArray)).size ≤ 9223372036854775807 then (some ((((⟨#[40]⟩ : ByteArray) ++ t183) ++ (⟨#[41]⟩ : ByteArray)) ++ (((⟨#[40]⟩ : ByteArray) ++ t188) ++ (⟨#[41]⟩ : ByteArray)))) else (none)) else (none)) else (none)) else (if (((⟨#[40]⟩ : ByteArray) ++ t183) ++ (⟨#[41]⟩ : ByteArray)).size + t188.size ≤ 9223372036854775807 then (some ((((⟨#[40]⟩ : ByteArray) ++ t183) ++ (⟨#[41]⟩ : ByteArray)) ++ t188)) else (none)))) else (none)) else (none)) else (none)) else (none)) else (if 0 ≤ (wrap64 ((ji2) - 1)) then (if (wrap64 ((ji2) - 1)) < (l0.length : Int) then (if ((rd_T34 l0 (wrap64 ((ji2) - 1))).f0) = 3 then (if 1 + t188.size ≤ 9223372036854775807 then (if ((⟨#[40]⟩ : ByteArray) ++ t188).size + 1 ≤ 9223372036854775807 then (if t183.size + (((⟨#[40]⟩ : ByteArray) ++ t188) ++ (⟨#[41]⟩ : ByteArray)).size ≤ 9223372036854775807 then (some (t183 ++ (((⟨#[40]⟩ : ByteArray) ++ t188) ++ (⟨#[41]⟩ : ByteArray)))) else (none)) else (none)) else (none)) else (if ((rd_T34 l0 (wrap64 ((ji2) - 1))).f0) = 2 then (if 1 + t188.size ≤ 9223372036854775807 then (if ((⟨#[40]⟩ : ByteArray) ++ t188).size + 1 ≤ 9223372036854775807 then (if t183.size + (((⟨#[40]⟩ : ByteArray) ++ t188) ++ (⟨#[41]⟩ : ByteArray)).size ≤ 9223372036854775807 then (some (t183 ++ (((⟨#[40]⟩ : ByteArray) ++ t188) ++ (⟨#[41]⟩ : ByteArray)))) else (none)) else (none)) else (none)) else (if t183.size + t188.size ≤ 9223372036854775807 then (some (t183 ++ t188)) else (none)))) else (none)) else (none))) else (none)) else (none)))) else (none)) else (none))) = some r := by first | (rw [hy179]; with_reducible exact H) | (have H2_ := (Option.bind_some _ _).symm.trans H; rw [hy179]; with_reducible exact H2_) | (have H2_ := (Option.bind_some _ _).symm.trans H; with_reducible exact H2_) | with_reducible exact H | (rw [hy179]; exact H) | exact H
              have Ny179 := Aside0.mk hy179
              clear hy179
              replace H := Option.bind_eq_some_iff.mp H
              obtain ⟨t183, A130, H⟩ := H
              replace H : (if t178 ≤ (ji2) then (if (ji2) ≤ (l0.length : Int) then ((spec_l9Text.f k ((l0.take ((ji2) : Int).toNat).drop (t178 : Int).toNat)).bind fun t188 => (if ((rd_T34 l0 (ji2)).f0) = 3 then (if 0 ≤ (wrap64 ((ji2) - 1)) then (if (wrap64 ((ji2) - 1)) < (l0.length : Int) then (if ((rd_T34 l0 (wrap64 ((ji2) - 1))).f0) = 3 then (if 1 + t188.size ≤ 9223372036854775807 then (if ((⟨#[40]⟩ : ByteArray) ++ t188).size + 1 ≤ 9223372036854775807 then (if t183.size + 1 ≤ 9223372036854775807 then (if (t183 ++ (⟨#[124]⟩ : ByteArray)).size + (((⟨#[40]⟩ : ByteArray) ++ t188) ++ (⟨#[41]⟩ : ByteArray)).size ≤ 9223372036854775807 then (some ((t183 ++ (⟨#[124]⟩ : ByteArray)) ++ (((⟨#[40]⟩ : ByteArray) ++ t188) ++ (⟨#[41]⟩ : ByteArray)))) else (none)) else (none)) else (none)) else (none)) else (if t183.size + 1 ≤ 9223372036854775807 then (if (t183 ++ (⟨#[124]⟩ : ByteArray)).size + t188.size ≤ 9223372036854775807 then (some ((t183 ++ (⟨#[124]⟩ : ByteArray)) ++ t188)) else (none)) else (none))) else (none)) else (none)) else (if 0 ≤ (wrap64 (t178 - 1)) then (if (wrap64 (t178 - 1)) < (l0.length : Int) then (if ((rd_T34 l0 (wrap64 (t178 - 1))).f0) = 3 then (if 1 + t183.size ≤ 9223372036854775807 then (if ((⟨#[40]⟩ : ByteArray) ++ t183).size + 1 ≤ 9223372036854775807 then (if 0 ≤ (wrap64 ((ji2) - 1)) then (if (wrap64 ((ji2) - 1)) < (l0.length : Int) then (if ((rd_T34 l0 (wrap64 ((ji2) - 1))).f0) = 3 then (if 1 + t188.size ≤ 9223372036854775807 then (if ((⟨#[40]⟩ : ByteArray) ++ t188).size + 1 ≤ 9223372036854775807 then (if (((⟨#[40]⟩ : ByteArray) ++ t183) ++ (⟨#[41]⟩ : ByteArray)).size + (((⟨#[40]⟩ : ByteArray) ++ t188) ++ (⟨#[41]⟩ : ByteArray)).size ≤ 9223372036854775807 then (some ((((⟨#[40]⟩ : ByteArray) ++ t183) ++ (⟨#[41]⟩ : ByteArray)) ++ (((⟨#[40]⟩ : ByteArray) ++ t188) ++ (⟨#[41]⟩ : ByteArray)))) else (none)) else (none)) else (none)) else (if ((rd_T34 l0 (wrap64 ((ji2) - 1))).f0) = 2 then (if 1 + t188.size ≤ 9223372036854775807 then (if ((⟨#[40]⟩ : ByteArray) ++ t188).size + 1 ≤ 9223372036854775807 then (if (((⟨#[40]⟩ : ByteArray) ++ t183) ++ (⟨#[41]⟩ : ByteArray)).size + (((⟨#[40]⟩ : ByteArray) ++ t188) ++ (⟨#[41]⟩ : ByteArray)).size ≤ 9223372036854775807 then (some ((((⟨#[40]⟩ : ByteArray) ++ t183) ++ (⟨#[41]⟩ : ByteArray)) ++ (((⟨#[40]⟩ : ByteArray) ++ t188) ++ (⟨#[41]⟩ : ByteArray)))) else (none)) else (none)) else (none)) else (if (((⟨#[40]⟩ : ByteArray) ++ t183) ++ (⟨#[41]⟩ : ByteArray)).size + t188.size ≤ 9223372036854775807 then (some ((((⟨#[40]⟩ : ByteArray) ++ t183) ++ (⟨#[41]⟩ : ByteArray)) ++ t188)) else (none)))) else (none)) else (none)) else (none)) else (none)) else (if 0 ≤ (wrap64 ((ji2) - 1)) then (if (wrap64 ((ji2) - 1)) < (l0.length : Int) then (if ((rd_T34 l0 (wrap64 ((ji2) - 1))).f0) = 3 then (if 1 + t188.size ≤ 9223372036854775807 then (if ((⟨#[40]⟩ : ByteArray) ++ t188).size + 1 ≤ 9223372036854775807 then (if t183.size + (((⟨#[40]⟩ : ByteArray) ++ t188) ++ (⟨#[41]⟩ : ByteArray)).size ≤ 9223372036854775807 then (some (t183 ++ (((⟨#[40]⟩ : ByteArray) ++ t188) ++ (⟨#[41]⟩ : ByteArray)))) else (none)) else (none)) else (none)) else (if ((rd_T34 l0 (wrap64 ((ji2) - 1))).f0) = 2 then (if 1 + t188.size ≤ 9223372036854775807 then (if ((⟨#[40]⟩ : ByteArray) ++ t188).size + 1 ≤ 9223372036854775807 then (if t183.size + (((⟨#[40]⟩ : ByteArray) ++ t188) ++ (⟨#[41]⟩ : ByteArray)).size ≤ 9223372036854775807 then (some (t183 ++ (((⟨#[40]⟩ : ByteArray) ++ t188) ++ (⟨#[41]⟩ : ByteArray)))) else (none)) else (none)) else (none)) else (if t183.size + t188.size ≤ 9223372036854775807 then (some (t183 ++ t188)) else (none)))) else (none)) else (none))) else (none)) else (none)))) else (none)) else (none)) = some r := H
              have A13 := Aside0.mk A130
              clear A130
              have c14b0 := eq_true (of_decide_eq_true (by first | (with_reducible assumption) | assumption) : 0 ≤ t178)
              by_cases c15 : t178 ≤ (ji2)
              · rw [if_pos c15] at H
                have c15b0 := eq_true c15
                have c15b1 : decide (t178 ≤ (ji2)) = true := decide_eq_true c15
                clear c15
                by_cases c16 : (ji2) ≤ (l0.length : Int)
                · rw [if_pos c16] at H
                  have c16b0 := eq_true c16
                  have c16b1 : decide ((ji2) ≤ (l0.length : Int)) = true := decide_eq_true c16
                  clear c16
                  obtain ⟨y184, hy184⟩ : ∃ y_ : List (S34), y_ = ((l0.take ((ji2) : Int).toNat).drop (t178 : Int).toNat) := ⟨_, rfl⟩
                  replace H : ((spec_l9Text.f k y184).bind fun t188 => (if ((rd_T34 l0 (ji2)).f0) = 3 then (if 0 ≤ (wrap64 ((ji2) - 1)) then (if (wrap64 ((ji2) - 1)) < (l0.length : Int) then (if ((rd_T34 l0 (wrap64 ((ji2) - 1))).f0) = 3 then (if 1 + t188.size ≤ 9223372036854775807 then (if ((⟨#[40]⟩ : ByteArray) ++ t188).size + 1 ≤ 9223372036854775807 then (if t183.size + 1 ≤ 9223372036854775807 then (if (t183 ++ (⟨#[124]⟩ : ByteArray)).size + (((⟨#[40]⟩ : ByteArray) ++ t188) ++ (⟨#[41]⟩ : ByteArray)).size ≤ 9223372036854775807 then (some ((t183 ++ (⟨#[124]⟩ : ByteArray)) ++ (((⟨#[40]⟩ : ByteArray) ++ t188) ++ (⟨#[41]⟩ : ByteArray)))) else (none)) else (none)) else (none)) else (none)) else (if t183.size + 1 ≤ 9223372036854775807 then (if (t183 ++ (⟨#[124]⟩ : ByteArray)).size + t188.size ≤ 9223372036854775807 then (some ((t183 ++ (⟨#[124]⟩ : ByteArray)) ++ t188)) else (none)) else (none))) else (none)) else (none)) else (if 0 ≤ (wrap64 (t178 - 1)) then (if (wrap64 (t178 - 1)) < (l0.length : Int) then (if ((rd_T34 l0 (wrap64 (t178 - 1))).f0) = 3 then (if 1 + t183.size ≤ 9223372036854775807 then (if ((⟨#[40]⟩ : ByteArray) ++ t183).size + 1 ≤ 9223372036854775807 then (if 0 ≤ (wrap64 ((ji2) - 1)) then (if (wrap64 ((ji2) - 1)) < (l0.length : Int) then (if ((rd_T34 l0 (wrap64 ((ji2) - 1))).f0) = 3 then (if 1 + t188.size ≤ 9223372036854775807 then (if ((⟨#[40]⟩ : ByteArray) ++ t188).size + 1 ≤ 9223372036854775807 then (if (((⟨#[40]⟩ : ByteArray) ++ t183) ++ (⟨#[41]⟩ : ByteArray)).size + (((⟨#[40]⟩ : ByteArray) ++ t188) ++ (⟨#[41]⟩ : ByteArray)).size ≤ 9223372036854775807 then (some ((((⟨#[40]⟩ : ByteArray) ++ t183) ++ (⟨#[41]⟩ : ByteArray)) ++ (((⟨#[40]⟩ : ByteArray) ++ t188) ++ (⟨#[41]⟩ : ByteArray)))) else (none)) else (none)) else (none)) else (if ((rd_T34 l0 (wrap64 ((ji2) - 1))).f0) = 2 then (if 1 + t188.size ≤ 9223372036854775807 then (if ((⟨#[40]⟩ : ByteArray) ++ t188).size + 1 ≤ 9223372036854775807 then (if (((⟨#[40]⟩ : ByteArray) ++ t183) ++ (⟨#[41]⟩ : ByteArray)).size + (((⟨#[40]⟩ : ByteArray) ++ t188) ++ (⟨#[41]⟩ : ByteArray)).size ≤ 9223372036854775807 then (some ((((⟨#[40]⟩ : ByteArray) ++ t183) ++ (⟨#[41]⟩ : ByteArray)) ++ (((⟨#[40]⟩ : ByteArray) ++ t188) ++ (⟨#[41]⟩ : ByteArray)))) else (none)) else (none)) else (none)) else (if (((⟨#[40]⟩ : ByteArray) ++ t183) ++ (⟨#[41]⟩ : ByteArray)).size + t188.size ≤ 9223372036854775807 then (some ((((⟨#[40]⟩ : ByteArray) ++ t183) ++ (⟨#[41]⟩ : ByteArray)) ++ t188)) else (none)))) else (none)) else (none)) else (none)) else (none)) else (if 0 ≤ (wrap64 ((ji2) - 1)) then (if (wrap64 ((ji2) - 1)) < (l0.length : Int) then (if ((rd_T34 l0 (wrap64 ((ji2) - 1))).f0) = 3 then (if 1 + t188.size ≤ 9223372036854775807 then (if ((⟨#[40]⟩ : ByteArray) ++ t188).size + 1 ≤ 9223372036854775807 then (if t183.size + (((⟨#[40]⟩ : ByteArray) ++ t188) ++ (⟨#[41]⟩ : ByteArray)).size ≤ 9223372036854775807 then (some (t183 ++ (((⟨#[40]⟩ : ByteArray) ++ t188) ++ (⟨#[41]⟩ : ByteArray)))) else (none)) else (none)) else (none)) else (if ((rd_T34 l0 (wrap64 ((ji2) - 1))).f0) = 2 then (if 1 + t188.size ≤ 9223372036854775807 then (if ((⟨#[40]⟩ : ByteArray) ++ t188).size + 1 ≤ 9223372036854775807 then (if t183.size + (((⟨#[40]⟩ : ByteArray) ++ t188) ++ (⟨#[41]⟩ : ByteArray)).size ≤ 9223372036854775807 then (some (t183 ++ (((⟨#[40]⟩ : ByteArray) ++ t188) ++ (⟨#[41]⟩ : ByteArray)))) else (none)) else (none)) else (none)) else (if t183.size + t188.size ≤ 9223372036854775807 then (some (t183 ++ t188)) else (none)))) else (none)) else (none))) else (none)) else (none)))) = some r := by first | (rw [hy184]; with_reducible exact H) | (have H2_ := (Option.bind_some _ _).symm.trans H; rw [hy184]; with_reducible exact H2_) | (have H2_ := (Option.bind_some _ _).symm.trans H; with_reducible exact H2_) | with_reducible exact H | (rw [hy184]; exact H) | exact H
                  have Ny184 := Aside0.mk hy184
                  clear hy184
                  replace H := Option.bind_eq_some_iff.mp H
                  obtain ⟨t188, A170, H⟩ := H
                  replace H : (if ((rd_T34 l0 (ji2)).f0) = 3 then (if 0 ≤ (wrap64 ((ji2) - 1)) then (if (wrap64 ((ji2) - 1)) < (l0.length : Int) then (if ((rd_T34 l0 (wrap64 ((ji2) - 1))).f0) = 3 then (if 1 + t188.size ≤ 9223372036854775807 then (if ((⟨#[40]⟩ : ByteArray) ++ t188).size + 1 ≤ 9223372036854775807 then (if t183.size + 1 ≤ 9223372036854775807 then (if (t183 ++ (⟨#[124]⟩ : ByteArray)).size + (((⟨#[40]⟩ : ByteArray) ++ t188) ++ (⟨#[41]⟩ : ByteArray)).size ≤ 9223372036854775807 then (some ((t183 ++ (⟨#[124]⟩ : ByteArray)) ++ (((⟨#[40]⟩ : ByteArray) ++ t188) ++ (⟨#[41]⟩ : ByteArray)))) else (none)) else (none)) else (none)) else (none)) else (if t183.size + 1 ≤ 9223372036854775807 then (if (t183 ++ (⟨#[124]⟩ : ByteArray)).size + t188.size ≤ 9223372036854775807 then (some ((t183 ++ (⟨#[124]⟩ : ByteArray)) ++ t188)) else (none)) else (none))) else (none)) else (none)) else (if 0 ≤ (wrap64 (t178 - 1)) then (if (wrap64 (t178 - 1)) < (l0.length : Int) then (if ((rd_T34 l0 (wrap64 (t178 - 1))).f0) = 3 then (if 1 + t183.size ≤ 9223372036854775807 then (if ((⟨#[40]⟩ : ByteArray) ++ t183).size + 1 ≤ 9223372036854775807 then (if 0 ≤ (wrap64 ((ji2) - 1)) then (if (wrap64 ((ji2) - 1)) < (l0.length : Int) then (if ((rd_T34 l0 (wrap64 ((ji2) - 1))).f0) = 3 then (if 1 + t188.size ≤ 9223372036854775807 then (if ((⟨#[40]⟩ : ByteArray) ++ t188).size + 1 ≤ 9223372036854775807 then (if (((⟨#[40]⟩ : ByteArray) ++ t183) ++ (⟨#[41]⟩ : ByteArray)).size + (((⟨#[40]⟩ : ByteArray) ++ t188) ++ (⟨#[41]⟩ : ByteArray)).size ≤ 9223372036854775807 then (some ((((⟨#[40]⟩ : ByteArray) ++ t183) ++ (⟨#[41]⟩ : ByteArray)) ++ (((⟨#[40]⟩ : ByteArray) ++ t188) ++ (⟨#[41]⟩ : ByteArray)))) else (none)) else (none)) else (none)) else (if ((rd_T34 l0 (wrap64 ((ji2) - 1))).f0) = 2 then (if 1 + t188.size ≤ 9223372036854775807 then (if ((⟨#[40]⟩ : ByteArray) ++ t188).size + 1 ≤ 9223372036854775807 then (if (((⟨#[40]⟩ : ByteArray) ++ t183) ++ (⟨#[41]⟩ : ByteArray)).size + (((⟨#[40]⟩ : ByteArray) ++ t188) ++ (⟨#[41]⟩ : ByteArray)).size ≤ 9223372036854775807 then (some ((((⟨#[40]⟩ : ByteArray) ++ t183) ++ (⟨#[41]⟩ : ByteArray)) ++ (((⟨#[40]⟩ : ByteArray) ++ t188) ++ (⟨#[41]⟩ : ByteArray)))) else (none)) else (none)) else (none)) else (if (((⟨#[40]⟩ : ByteArray) ++ t183) ++ (⟨#[41]⟩ : ByteArray)).size + t188.size ≤ 9223372036854775807 then (some ((((⟨#[40]⟩ : ByteArray) ++ t183) ++ (⟨#[41]⟩ : ByteArray)) ++ t188)) else (none)))) else (none)) else (none)) else (none)) else (none)) else (if 0 ≤ (wrap64 ((ji2) - 1)) then (if (wrap64 ((ji2) - 1)) < (l0.length : Int) then (if ((rd_T34 l0 (wrap64 ((ji2) - 1))).f0) = 3 then (if 1 + t188.size ≤ 9223372036854775807 then (if ((⟨#[40]⟩ : ByteArray) ++ t188).size + 1 ≤ 9223372036854775807 then (if t183.size + (((⟨#[40]⟩ : ByteArray) ++ t188) ++ (⟨#[41]⟩ : ByteArray)).size ≤ 9223372036854775807 then (some (t183 ++ (((⟨#[40]⟩ : ByteArray) ++ t188) ++ (⟨#[41]⟩ : ByteArray)))) else (none)) else (none)) else (none)) else (if ((rd_T34 l0 (wrap64 ((ji2) - 1))).f0) = 2 then (if 1 + t188.size ≤ 9223372036854775807 then (if ((⟨#[40]⟩ : ByteArray) ++ t188).size + 1 ≤ 9223372036854775807 then (if t183.size + (((⟨#[40]⟩ : ByteArray) ++ t188) ++ (⟨#[41]⟩ : ByteArray)).size ≤ 9223372036854775807 then (some (t183 ++ (((⟨#[40]⟩ : ByteArray) ++ t188) ++ (⟨#[41]⟩ : ByteArray)))) else (none)) else (none)) else (none)) else (if t183.size + t188.size ≤ 9223372036854775807 then (some (t183 ++ t188)) else (none)))) else (none)) else (none))) else (none)) else (none))) = some r := H
                  have A17 := Aside0.mk A170
                  clear A170
                  by_cases c18 : ((rd_T34 l0 (ji2)).f0) = 3
                  · rw [if_pos c18] at H
                    have c18b0 : (((rd_T34 l0 (ji2)).f0) == 3) = true := beq_iff_eq.mpr c18
                    have c18b1 : (((rd_T34 l0 (ji2)).f0) != 3) = false := bne_eq_false_iff_eq.mpr c18
                    clear c18
                    obtain ⟨ji19, hji19⟩ : ∃ j_ : Int, (wrap64 ((ji2) - 1)) = j_ := ⟨_, rfl⟩
                    replace H : (if 0 ≤ (ji19) then (if (ji19) < (l0.length : Int) then (if ((rd_T34 l0 (ji19)).f0) = 3 then (if 1 + t188.size ≤ 9223372036854775807 then (if ((⟨#[40]⟩ : ByteArray) ++ t188).size + 1 ≤ 9223372036854775807 then (if t183.size + 1 ≤ 9223372036854775807 then (if (t183 ++ (⟨#[124]⟩ : ByteArray)).size + (((⟨#[40]⟩ : ByteArray) ++ t188) ++ (⟨#[41]⟩ : ByteArray)).size ≤ 9223372036854775807 then (some ((t183 ++ (⟨#[124]⟩ : ByteArray)) ++ (((⟨#[40]⟩ : ByteArray) ++ t188) ++ (⟨#[41]⟩ : ByteArray)))) else (none)) else (none)) else (none)) else (none)) else (if t183.size + 1 ≤ 9223372036854775807 then (if (t183 ++ (⟨#[124]⟩ : ByteArray)).size + t188.size ≤ 9223372036854775807 then (some ((t183 ++ (⟨#[124]⟩ : ByteArray)) ++ t188)) else (none)) else (none))) else (none)) else (none)) = some r := by first | (rw [hji19] at H; exact H) | (simp only [hji19] at H ⊢; exact H)
                    (try rw [hji19] at A10)
                    (try rw [hji19] at A13)
                    (try rw [hji19] at A17)
                    have hji19w : (IntKind.i64.wrap ((ji2) - 1)) = ji19 := (i64_w _).trans hji19
                    by_cases c20 : 0 ≤ (ji19)
                    · rw [if_pos c20] at H
                      have c20b0 : decide (0 ≤ (ji19)) = true := decide_eq_true c20
                      clear c20
                      by_cases c21 : (ji19) < (l0.length : Int)
                      · rw [if_pos c21] at H
                        have c21b0 : decide ((ji19) < (l0.length : Int)) = true := decide_eq_true c21
                        clear c21
                        by_cases c22 : ((rd_T34 l0 (ji19)).f0) = 3
                        · rw [if_pos c22] at H
                          have c22b0 : (((rd_T34 l0 (ji19)).f0) == 3) = true := beq_iff_eq.mpr c22
                          have c22b1 : (((rd_T34 l0 (ji19)).f0) != 3) = false := bne_eq_false_iff_eq.mpr c22
                          clear c22
                          by_cases c23 : 1 + t188.size ≤ 9223372036854775807
                          · rw [if_pos c23] at H
                            have c23b0 := eq_true c23
                            have c23b1 : decide (1 + t188.size ≤ 9223372036854775807) = true := decide_eq_true c23
                            try have c23b2 : (9223372036854775807 < 1 + t188.size) = False := eq_false (Nat.not_lt.2 c23)
                            by_cases c24 : ((⟨#[40]⟩ : ByteArray) ++ t188).size + 1 ≤ 9223372036854775807
                            · rw [if_pos c24] at H
                              have c24b0 := eq_true c24
                              have c24b1 : decide (((⟨#[40]⟩ : ByteArray) ++ t188).size + 1 ≤ 9223372036854775807) = true := decide_eq_true c24
                              try have c24b2 : (9223372036854775807 < ((⟨#[40]⟩ : ByteArray) ++ t188).size + 1) = False := eq_false (Nat.not_lt.2 c24)
                              have c24b3 : (9223372036854775807 < 1 + t188.size + 1) = False := eq_false (by have h_ := c24; simp only [ByteArray.size_append, show (⟨#[40]⟩ : ByteArray).size = 1 from rfl] at h_; omega)
                              by_cases c25 : t183.size + 1 ≤ 9223372036854775807
                              · rw [if_pos c25] at H
                                have c25b0 := eq_true c25
                                have c25b1 : decide (t183.size + 1 ≤ 9223372036854775807) = true := decide_eq_true c25
                                try have c25b2 : (9223372036854775807 < t183.size + 1) = False := eq_false (Nat.not_lt.2 c25)
                                by_cases c26 : (t183 ++ (⟨#[124]⟩ : ByteArray)).size + (((⟨#[40]⟩ : ByteArray) ++ t188) ++ (⟨#[41]⟩ : ByteArray)).size ≤ 9223372036854775807
                                · rw [if_pos c26] at H
                                  have c26b0 := eq_true c26
                                  have c26b1 : decide ((t183 ++ (⟨#[124]⟩ : ByteArray)).size + (((⟨#[40]⟩ : ByteArray) ++ t188) ++ (⟨#[41]⟩ : ByteArray)).size ≤ 9223372036854775807) = true := decide_eq_true c26
                                  try have c26b2 : (9223372036854775807 < (t183 ++ (⟨#[124]⟩ : ByteArray)).size + (((⟨#[40]⟩ : ByteArray) ++ t188) ++ (⟨#[41]⟩ : ByteArray)).size) = False := eq_false (Nat.not_lt.2 c26)
                                  have c26b3 : (9223372036854775807 < t183.size + 1 + (1 + t188.size + 1)) = False := eq_false (by have h_ := c26; simp only [ByteArray.size_append, show (⟨#[124]⟩ : ByteArray).size = 1 from rfl, show (⟨#[40]⟩ : ByteArray).size = 1 from rfl, show (⟨#[41]⟩ : ByteArray).size = 1 from rfl] at h_; omega)
                                  obtain rfl := Option.some.inj H
                                  have p175 : 0 ≤ ((ji2) : Int) := of_decide_eq_true (by first | (with_reducible assumption) | assumption)
                                  have q175 : (ji2) < (l0.length : Int) := of_decide_eq_true (by first | (with_reducible assumption) | assumption)
                                  obtain ⟨ad175, e175, hx175_0, hx175_1⟩ := at_T34 HR0.out (ji2) p175 q175
                                  cases e175
                                  replace p175 := eq_true p175
                                  replace q175 := eq_true q175
                                  go_enter Try.func53, Try.ntmps53
                                  go_wp2_with (first | (go_at_call 65; (with_reducible refine (spec_l9Starts.calls k _ _ l0 ji19 t178 _ ?side1 ?side2 A10.out).mono ?_); (case side1 => repeat (first | exact HR0.out | (with_reducible refine Kd.C_alloc ?_ _) | (with_reducible refine Kd.C_drewN ?_ _) | (with_reducible refine Kd.C_drew ?_))); (case side2 => exact HC0.out); rintro e w' ⟨rfl, ⟨nd, rfl⟩⟩; (try first | exact ⟨rfl, _, World.drewN_drewN _ _ _⟩ | exact ⟨rfl, _, Eq.trans (World.drewN_drewN _ _ _) (congrArg (World.drewN _) (Nat.add_assoc _ _ _))⟩); have q27 : (t178 : Int) ≤ ((l0.length : Int) : Int) := of_decide_eq_true (by first | (with_reducible assumption) | assumption); obtain ⟨i027, hi027, _, hsz27, _⟩ := info_parts info34; have hroom27 : l0.length ≤ c0 := HC0.out; have hC27 : Kd.C k34 _ (some ad175) l0.length l0 := HR0.out; have hcut27 := cut_to (P := Try.prog) 25 34 .i64 Try.underlying25 hi027 (some ad175) l0.length c0 t178 (of_decide_eq_true (by first | (with_reducible assumption) | assumption)) q27 hroom27; have hr27 := Kd.C_take (m := (t178 : Int).toNat) hC27 (by omega); have hy27 : y179.length = (t178 : Int).toNat := (by rw [Ny179.out, List.length_take]; omega); rw [← Ny179.out] at hr27; rw [← hy27] at hcut27; have HR182 := Aside0.mk hr27; have HC182 := Aside0.mk (show y179.length ≤ c0 from by omega); clear hr27 hC27 hroom27 hi027 hsz27; have KY27 := Aside0.mk hy27; clear hy27; replace q27 := eq_true q27) | (go_at_call 53; (with_reducible refine (ih k (by omega) _ _ y179 t183 _ ?side1 ?side2 A13.out).mono ?_); (case side1 => repeat (first | exact HR182.out | (with_reducible refine Kd.C_alloc ?_ _) | (with_reducible refine Kd.C_drewN ?_ _) | (with_reducible refine Kd.C_drew ?_))); (case side2 => exact HC182.out); rintro e w' ⟨rfl, ⟨nd, rfl⟩⟩; (try first | exact ⟨rfl, _, World.drewN_drewN _ _ _⟩ | exact ⟨rfl, _, Eq.trans (World.drewN_drewN _ _ _) (congrArg (World.drewN _) (Nat.add_assoc _ _ _))⟩); have q28 : ((ji2) : Int) ≤ ((l0.length : Int) : Int) := of_decide_eq_true (by first | (with_reducible assumption) | assumption); obtain ⟨i028, hi028, _, hsz28, _⟩ := info_parts info34; have hroom28 : l0.length ≤ c0 := HC0.out; have hC28 : Kd.C k34 _ (some ad175) l0.length l0 := HR0.out; have ql28 : (t178 : Int) ≤ ((ji2) : Int) := of_decide_eq_true (by first | (with_reducible assumption) | assumption); have q028 : (0 : Int) ≤ (t178 : Int) := of_decide_eq_true (by first | (with_reducible assumption) | assumption); have hcut28 := cut_mid (P := Try.prog) 25 34 .i64 .i64 Try.underlying25 hi028 2 hsz28 (some ad175) l0.length c0 t178 (ji2) q028 ql28 q28 hroom28; have hr28 := Kd.C_mid (lo := (t178 : Int).toNat) (hi := ((ji2) : Int).toNat) (c := c0) hC28 (by omega) (by omega) hroom28; obtain ⟨A28, hA28⟩ : ∃ A1, A1 = (if c0 = (t178 : Int).toNat then (some ad175) else ((some ad175) : Option Addr).map (·.add ((t178 : Int).toNat * 2))) := ⟨_, rfl⟩; obtain ⟨c28, hc28⟩ : ∃ c1, c1 = c0 - (t178 : Int).toNat := ⟨_, rfl⟩; have hy28 : y184.length = ((ji2) : Int).toNat - (t178 : Int).toNat := (by rw [Ny184.out, List.length_drop, List.length_take] <;> omega); rw [show ((l0).take ((ji2) : Int).toNat).drop (t178 : Int).toNat = y184 from Ny184.out.symm] at hr28; replace hr28 : Kd.C k34 _ A28 y184.length y184 := (by rw [hA28]; exact hr28); rw [← hy28, ← hA28, ← hc28] at hcut28; have HR187 := Aside0.mk hr28; have HC187 := Aside0.mk (show y184.length ≤ c28 from by rw [hy28, hc28]; exact Nat.sub_le_sub_right (Nat.le_trans (by omega) hroom28) _); clear hr28 hC28 hroom28 hi028 hsz28 hc28; have KY28 := Aside0.mk hy28; have KA28 := Aside0.mk hA28; clear hy28 hA28; replace q28 := eq_true q28) | (go_at_call 53; (with_reducible refine (ih k (by omega) _ _ y184 t188 _ ?side1 ?side2 A17.out).mono ?_); (case side1 => repeat (first | exact HR187.out | (with_reducible refine Kd.C_alloc ?_ _) | (with_reducible refine Kd.C_drewN ?_ _) | (with_reducible refine Kd.C_drew ?_))); (case side2 => exact HC187.out); rintro e w' ⟨rfl, ⟨nd, rfl⟩⟩; (try first | exact ⟨rfl, _, World.drewN_drewN _ _ _⟩ | exact ⟨rfl, _, Eq.trans (World.drewN_drewN _ _ _) (congrArg (World.drewN _) (Nat.add_assoc _ _ _))⟩); have p189 : 0 ≤ ((ji2) : Int) := of_decide_eq_true (by first | (with_reducible assumption) | assumption); have q189 : (ji2) < (l0.length : Int) := of_decide_eq_true (by first | (with_reducible assumption) | assumption); obtain ⟨ad189, e189, hx189_0, hx189_1⟩ := at_T34 HR0.out (ji2) p189 q189; obtain rfl : ad175 = ad189 := (by injection e189); replace p189 := eq_true p189; replace q189 := eq_true q189; have p190 : 0 ≤ ((ji19) : Int) := of_decide_eq_true (by first | (with_reducible assumption) | assumption); have q190 : (ji19) < (l0.length : Int) := of_decide_eq_true (by first | (with_reducible assumption) | assumption); obtain ⟨ad190, e190, hx190_0, hx190_1⟩ := at_T34 HR0.out (ji19) p190 q190; obtain rfl : ad175 = ad190 := (by injection e190); replace p190 := eq_true p190; replace q190 := eq_true q190))
                                  go_ret
                                  exact ⟨by first | rfl | (simp; done) | (simp only [← hji2, ← hji19] <;> (first | rfl | simp)) | (simp [*]; done), by repeat (first | exact Drawn0.refl _ | apply Drawn0.step)⟩
                                · rw [if_neg c26] at H
                                  exact absurd H (by simp)
                              · rw [if_neg c25] at H
                                exact absurd H (by simp)
                            · rw [if_neg c24] at H
                              exact absurd H (by simp)
                          · rw [if_neg c23] at H
                            exact absurd H (by simp)
                        · rw [if_neg c22] at H
                          have c22b0 : (((rd_T34 l0 (ji19)).f0) == 3) = false := beq_eq_false_iff_ne.mpr c22
                          have c22b1 : (((rd_T34 l0 (ji19)).f0) != 3) = true := bne_iff_ne.mpr c22
                          by_cases c29 : t183.size + 1 ≤ 9223372036854775807
                          · rw [if_pos c29] at H
                            have c29b0 := eq_true c29
                            have c29b1 : decide (t183.size + 1 ≤ 9223372036854775807) = true := decide_eq_true c29
                            try have c29b2 : (9223372036854775807 < t183.size + 1) = False := eq_false (Nat.not_lt.2 c29)
                            by_cases c30 : (t183 ++ (⟨#[124]⟩ : ByteArray)).size + t188.size ≤ 9223372036854775807
                            · rw [if_pos c30] at H
                              have c30b0 := eq_true c30
                              have c30b1 : decide ((t183 ++ (⟨#[124]⟩ : ByteArray)).size + t188.size ≤ 9223372036854775807) = true := decide_eq_true c30
                              try have c30b2 : (9223372036854775807 < (t183 ++ (⟨#[124]⟩ : ByteArray)).size + t188.size) = False := eq_false (Nat.not_lt.2 c30)
                              have c30b3 : (9223372036854775807 < t183.size + 1 + t188.size) = False := eq_false (by have h_ := c30; simp only [ByteArray.size_append, show (⟨#[124]⟩ : ByteArray).size = 1 from rfl] at h_; omega)
                              obtain rfl := Option.some.inj H
                              have p175 : 0 ≤ ((ji2) : Int) := of_decide_eq_true (by first | (with_reducible assumption) | assumption)
                              have q175 : (ji2) < (l0.length : Int) := of_decide_eq_true (by first | (with_reducible assumption) | assumption)
                              obtain ⟨ad175, e175, hx175_0, hx175_1⟩ := at_T34 HR0.out (ji2) p175 q175
                              cases e175
                              replace p175 := eq_true p175
                              replace q175 := eq_true q175
                              go_enter Try.func53, Try.ntmps53
                              go_wp2_with (first | (go_at_call 65; (with_reducible refine (spec_l9Starts.calls k _ _ l0 ji19 t178 _ ?side1 ?side2 A10.out).mono ?_); (case side1 => repeat (first | exact HR0.out | (with_reducible refine Kd.C_alloc ?_ _) | (with_reducible refine Kd.C_drewN ?_ _) | (with_reducible refine Kd.C_drew ?_))); (case side2 => exact HC0.out); rintro e w' ⟨rfl, ⟨nd, rfl⟩⟩; (try first | exact ⟨rfl, _, World.drewN_drewN _ _ _⟩ | exact ⟨rfl, _, Eq.trans (World.drewN_drewN _ _ _) (congrArg (World.drewN _) (Nat.add_assoc _ _ _))⟩); have q31 : (t178 : Int) ≤ ((l0.length : Int) : Int) := of_decide_eq_true (by first | (with_reducible assumption) | assumption); obtain ⟨i031, hi031, _, hsz31, _⟩ := info_parts info34; have hroom31 : l0.length ≤ c0 := HC0.out; have hC31 : Kd.C k34 _ (some ad175) l0.length l0 := HR0.out; have hcut31 := cut_to (P := Try.prog) 25 34 .i64 Try.underlying25 hi031 (some ad175) l0.length c0 t178 (of_decide_eq_true (by first | (with_reducible assumption) | assumption)) q31 hroom31; have hr31 := Kd.C_take (m := (t178 : Int).toNat) hC31 (by omega); have hy31 : y179.length = (t178 : Int).toNat := (by rw [Ny179.out, List.length_take]; omega); rw [← Ny179.out] at hr31; rw [← hy31] at hcut31; have HR182 := Aside0.mk hr31; have HC182 := Aside0.mk (show y179.length ≤ c0 from by omega); clear hr31 hC31 hroom31 hi031 hsz31; have KY31 := Aside0.mk hy31; clear hy31; replace q31 := eq_true q31) | (go_at_call 53; (with_reducible refine (ih k (by omega) _ _ y179 t183 _ ?side1 ?side2 A13.out).mono ?_); (case side1 => repeat (first | exact HR182.out | (with_reducible refine Kd.C_alloc ?_ _) | (with_reducible refine Kd.C_drewN ?_ _) | (with_reducible refine Kd.C_drew ?_))); (case side2 => exact HC182.out); rintro e w' ⟨rfl, ⟨nd, rfl⟩⟩; (try first | exact ⟨rfl, _, World.drewN_drewN _ _ _⟩ | exact ⟨rfl, _, Eq.trans (World.drewN_drewN _ _ _) (congrArg (World.drewN _) (Nat.add_assoc _ _ _))⟩); have q32 : ((ji2) : Int) ≤ ((l0.length : Int) : Int) := of_decide_eq_true (by first | (with_reducible assumption) | assumption); obtain ⟨i032, hi032, _, hsz32, _⟩ := info_parts info34; have hroom32 : l0.length ≤ c0 := HC0.out; have hC32 : Kd.C k34 _ (some ad175) l0.length l0 := HR0.out; have ql32 : (t178 : Int) ≤ ((ji2) : Int) := of_decide_eq_true (by first | (with_reducible assumption) | assumption); have q032 : (0 : Int) ≤ (t178 : Int) := of_decide_eq_true (by first | (with_reducible assumption) | assumption); have hcut32 := cut_mid (P := Try.prog) 25 34 .i64 .i64 Try.underlying25 hi032 2 hsz32 (some ad175) l0.length c0 t178 (ji2) q032 ql32 q32 hroom32; have hr32 := Kd.C_mid (lo := (t178 : Int).toNat) (hi := ((ji2) : Int).toNat) (c := c0) hC32 (by omega) (by omega) hroom32; obtain ⟨A32, hA32⟩ : ∃ A1, A1 = (if c0 = (t178 : Int).toNat then (some ad175) else ((some ad175) : Option Addr).map (·.add ((t178 : Int).toNat * 2))) := ⟨_, rfl⟩; obtain ⟨c32, hc32⟩ : ∃ c1, c1 = c0 - (t178 : Int).toNat := ⟨_, rfl⟩; have hy32 : y184.length = ((ji2) : Int).toNat - (t178 : Int).toNat := (by rw [Ny184.out, List.length_drop, List.length_take] <;> omega); rw [show ((l0).take ((ji2) : Int).toNat).drop (t178 : Int).toNat = y184 from Ny184.out.symm] at hr32; replace hr32 : Kd.C k34 _ A32 y184.length y184 := (by rw [hA32]; exact hr32); rw [← hy32, ← hA32, ← hc32] at hcut32; have HR187 := Aside0.mk hr32; have HC187 := Aside0.mk (show y184.length ≤ c32 from by rw [hy32, hc32]; exact Nat.sub_le_sub_right (Nat.le_trans (by omega) hroom32) _); clear hr32 hC32 hroom32 hi032 hsz32 hc32; have KY32 := Aside0.mk hy32; have KA32 := Aside0.mk hA32; clear hy32 hA32; replace q32 := eq_true q32) | (go_at_call 53; (with_reducible refine (ih k (by omega) _ _ y184 t188 _ ?side1 ?side2 A17.out).mono ?_); (case side1 => repeat (first | exact HR187.out | (with_reducible refine Kd.C_alloc ?_ _) | (with_reducible refine Kd.C_drewN ?_ _) | (with_reducible refine Kd.C_drew ?_))); (case side2 => exact HC187.out); rintro e w' ⟨rfl, ⟨nd, rfl⟩⟩; (try first | exact ⟨rfl, _, World.drewN_drewN _ _ _⟩ | exact ⟨rfl, _, Eq.trans (World.drewN_drewN _ _ _) (congrArg (World.drewN _) (Nat.add_assoc _ _ _))⟩); have p189 : 0 ≤ ((ji2) : Int) := of_decide_eq_true (by first | (with_reducible assumption) | assumption); have q189 : (ji2) < (l0.length : Int) := of_decide_eq_true (by first | (with_reducible assumption) | assumption); obtain ⟨ad189, e189, hx189_0, hx189_1⟩ := at_T34 HR0.out (ji2) p189 q189; obtain rfl : ad175 = ad189 := (by injection e189); replace p189 := eq_true p189; replace q189 := eq_true q189; have p190 : 0 ≤ ((ji19) : Int) := of_decide_eq_true (by first | (with_reducible assumption) | assumption); have q190 : (ji19) < (l0.length : Int) := of_decide_eq_true (by first | (with_reducible assumption) | assumption); obtain ⟨ad190, e190, hx190_0, hx190_1⟩ := at_T34 HR0.out (ji19) p190 q190; obtain rfl : ad175 = ad190 := (by injection e190); replace p190 := eq_true p190; replace q190 := eq_true q190))
                              go_ret
                              exact ⟨by first | rfl | (simp; done) | (simp only [← hji2, ← hji19] <;> (first | rfl | simp)) | (simp [*]; done), by repeat (first | exact Drawn0.refl _ | apply Drawn0.step)⟩
                            · rw [if_neg c30] at H
                              exact absurd H (by simp)
                          · rw [if_neg c29] at H
                            exact absurd H (by simp)
                      · rw [if_neg c21] at H
                        exact absurd H (by simp)
                    · rw [if_neg c20] at H
                      exact absurd H (by simp)
                  · rw [if_neg c18] at H
                    have c18b0 : (((rd_T34 l0 (ji2)).f0) == 3) = false := beq_eq_false_iff_ne.mpr c18
                    have c18b1 : (((rd_T34 l0 (ji2)).f0) != 3) = true := bne_iff_ne.mpr c18
                    obtain ⟨ji33, hji33⟩ : ∃ j_ : Int, (wrap64 (t178 - 1)) = j_ := ⟨_, rfl⟩
                    replace H : (if 0 ≤ (ji33) then (if (ji33) < (l0.length : Int) then (if ((rd_T34 l0 (ji33)).f0) = 3 then (if 1 + t183.size ≤ 9223372036854775807 then (if ((⟨#[40]⟩ : ByteArray) ++ t183).size + 1 ≤ 9223372036854775807 then (if 0 ≤ (wrap64 ((ji2) - 1)) then (if (wrap64 ((ji2) - 1)) < (l0.length : Int) then (if ((rd_T34 l0 (wrap64 ((ji2) - 1))).f0) = 3 then (if 1 + t188.size ≤ 9223372036854775807 then (if ((⟨#[40]⟩ : ByteArray) ++ t188).size + 1 ≤ 9223372036854775807 then (if (((⟨#[40]⟩ : ByteArray) ++ t183) ++ (⟨#[41]⟩ : ByteArray)).size + (((⟨#[40]⟩ : ByteArray) ++ t188) ++ (⟨#[41]⟩ : ByteArray)).size ≤ 9223372036854775807 then (some ((((⟨#[40]⟩ : ByteArray) ++ t183) ++ (⟨#[41]⟩ : ByteArray)) ++ (((⟨#[40]⟩ : ByteArray) ++ t188) ++ (⟨#[41]⟩ : ByteArray)))) else (none)) else (none)) else (none)) else (if ((rd_T34 l0 (wrap64 ((ji2) - 1))).f0) = 2 then (if 1 + t188.size ≤ 9223372036854775807 then (if ((⟨#[40]⟩ : ByteArray) ++ t188).size + 1 ≤ 9223372036854775807 then (if (((⟨#[40]⟩ : ByteArray) ++ t183) ++ (⟨#[41]⟩ : ByteArray)).size + (((⟨#[40]⟩ : ByteArray) ++ t188) ++ (⟨#[41]⟩ : ByteArray)).size ≤ 9223372036854775807 then (some ((((⟨#[40]⟩ : ByteArray) ++ t183) ++ (⟨#[41]⟩ : ByteArray)) ++ (((⟨#[40]⟩ : ByteArray) ++ t188) ++ (⟨#[41]⟩ : ByteArray)))) else (none)) else (none)) else (none)) else (if (((⟨#[40]⟩ : ByteArray) ++ t183) ++ (⟨#[41]⟩ : ByteArray)).size + t188.size ≤ 9223372036854775807 then (some ((((⟨#[40]⟩ : ByteArray) ++ t183) ++ (⟨#[41]⟩ : ByteArray)) ++ t188)) else (none)))) else (none)) else (none)) else (none)) else (none)) else (if 0 ≤ (wrap64 ((ji2) - 1)) then (if (wrap64 ((ji2) - 1)) < (l0.length : Int) then (if ((rd_T34 l0 (wrap64 ((ji2) - 1))).f0) = 3 then (if 1 + t188.size ≤ 9223372036854775807 then (if ((⟨#[40]⟩ : ByteArray) ++ t188).size + 1 ≤ 9223372036854775807 then (if t183.size + (((⟨#[40]⟩ : ByteArray) ++ t188) ++ (⟨#[41]⟩ : ByteArray)).size ≤ 9223372036854775807 then (some (t183 ++ (((⟨#[40]⟩ : ByteArray) ++ t188) ++ (⟨#[41]⟩ : ByteArray)))) else (none)) else (none)) else (none)) else (if ((rd_T34 l0 (wrap64 ((ji2) - 1))).f0) = 2 then (if 1 + t188.size ≤ 9223372036854775807 then (if ((⟨#[40]⟩ : ByteArray) ++ t188).size + 1 ≤ 9223372036854775807 then (if t183.size + (((⟨#[40]⟩ : ByteArray) ++ t188) ++ (⟨#[41]⟩ : ByteArray)).size ≤ 9223372036854775807 then (some (t183 ++ (((⟨#[40]⟩ : ByteArray) ++ t188) ++ (⟨#[41]⟩ : ByteArray)))) else (none)) else (none)) else (none)) else (if t183.size + t188.size ≤ 9223372036854775807 then (some (t183 ++ t188)) else (none)))) else (none)) else (none))) else (none)) else (none)) = some r := by first | (rw [hji33] at H; exact H) | (simp only [hji33] at H ⊢; exact H)
                    (try rw [hji33] at A10)
                    (try rw [hji33] at A13)
                    (try rw [hji33] at A17)
                    have hji33w : (IntKind.i64.wrap (t178 - 1)) = ji33 := (i64_w _).trans hji33
                    by_cases c34 : 0 ≤ (ji33)
                    · rw [if_pos c34] at H
                      have c34b0 : decide (0 ≤ (ji33)) = true := decide_eq_true c34
                      clear c34
                      by_cases c35 : (ji33) < (l0.length : Int)
                      · rw [if_pos c35] at H
                        have c35b0 : decide ((ji33) < (l0.length : Int)) = true := decide_eq_true c35
                        clear c35
                        by_cases c36 : ((rd_T34 l0 (ji33)).f0) = 3
                        · rw [if_pos c36] at H
                          have c36b0 : (((rd_T34 l0 (ji33)).f0) == 3) = true := beq_iff_eq.mpr c36
                          have c36b1 : (((rd_T34 l0 (ji33)).f0) != 3) = false := bne_eq_false_iff_eq.mpr c36
                          clear c36
                          by_cases c37 : 1 + t183.size ≤ 9223372036854775807
                          · rw [if_pos c37] at H
                            have c37b0 := eq_true c37
                            have c37b1 : decide (1 + t183.size ≤ 9223372036854775807) = true := decide_eq_true c37
                            try have c37b2 : (9223372036854775807 < 1 + t183.size) = False := eq_false (Nat.not_lt.2 c37)
                            by_cases c38 : ((⟨#[40]⟩ : ByteArray) ++ t183).size + 1 ≤ 9223372036854775807
                            · rw [if_pos c38] at H
                              have c38b0 := eq_true c38
                              have c38b1 : decide (((⟨#[40]⟩ : ByteArray) ++ t183).size + 1 ≤ 9223372036854775807) = true := decide_eq_true c38
                              try have c38b2 : (9223372036854775807 < ((⟨#[40]⟩ : ByteArray) ++ t183).size + 1) = False := eq_false (Nat.not_lt.2 c38)
                              have c38b3 : (9223372036854775807 < 1 + t183.size + 1) = False := eq_false (by have h_ := c38; simp only [ByteArray.size_append, show (⟨#[40]⟩ : ByteArray).size = 1 from rfl] at h_; omega)
                              obtain ⟨ji39, hji39⟩ : ∃ j_ : Int, (wrap64 ((ji2) - 1)) = j_ := ⟨_, rfl⟩
                              replace H : (if 0 ≤ (ji39) then (if (ji39) < (l0.length : Int) then (if ((rd_T34 l0 (ji39)).f0) = 3 then (if 1 + t188.size ≤ 9223372036854775807 then (if ((⟨#[40]⟩ : ByteArray) ++ t188).size + 1 ≤ 9223372036854775807 then (if (((⟨#[40]⟩ : ByteArray) ++ t183) ++ (⟨#[41]⟩ : ByteArray)).size + (((⟨#[40]⟩ : ByteArray) ++ t188) ++ (⟨#[41]⟩ : ByteArray)).size ≤ 9223372036854775807 then (some ((((⟨#[40]⟩ : ByteArray) ++ t183) ++ (⟨#[41]⟩ : ByteArray)) ++ (((⟨#[40]⟩ : ByteArray) ++ t188) ++ (⟨#[41]⟩ : ByteArray)))) else (none)) else (none)) else (none)) else (if ((rd_T34 l0 (ji39)).f0) = 2 then (if 1 + t188.size ≤ 9223372036854775807 then (if ((⟨#[40]⟩ : ByteArray) ++ t188).size + 1 ≤ 9223372036854775807 then (if (((⟨#[40]⟩ : ByteArray) ++ t183) ++ (⟨#[41]⟩ : ByteArray)).size + (((⟨#[40]⟩ : ByteArray) ++ t188) ++ (⟨#[41]⟩ : ByteArray)).size ≤ 9223372036854775807 then (some ((((⟨#[40]⟩ : ByteArray) ++ t183) ++ (⟨#[41]⟩ : ByteArray)) ++ (((⟨#[40]⟩ : ByteArray) ++ t188) ++ (⟨#[41]⟩ : ByteArray)))) else (none)) else (none)) else (none)) else (if (((⟨#[40]⟩ : ByteArray) ++ t183) ++ (⟨#[41]⟩ : ByteArray)).size + t188.size ≤ 9223372036854775807 then (some ((((⟨#[40]⟩ : ByteArray) ++ t183) ++ (⟨#[41]⟩ : ByteArray)) ++ t188)) else (none)))) else (none)) else (none)) = some r := by first | (rw [hji39] at H; exact H) | (simp only [hji39] at H ⊢; exact H)
                              (try rw [hji39] at A10)
                              (try rw [hji39] at A13)
                              (try rw [hji39] at A17)
                              have hji39w : (IntKind.i64.wrap ((ji2) - 1)) = ji39 := (i64_w _).trans hji39
                              by_cases c40 : 0 ≤ (ji39)
                              · rw [if_pos c40] at H
                                have c40b0 : decide (0 ≤ (ji39)) = true := decide_eq_true c40
                                clear c40
                                by_cases c41 : (ji39) < (l0.length : Int)
                                · rw [if_pos c41] at H
                                  have c41b0 : decide ((ji39) < (l0.length : Int)) = true := decide_eq_true c41
                                  clear c41
                                  by_cases c42 : ((rd_T34 l0 (ji39)).f0) = 3
                                  · rw [if_pos c42] at H
                                    have c42b0 : (((rd_T34 l0 (ji39)).f0) == 3) = true := beq_iff_eq.mpr c42
                                    have c42b1 : (((rd_T34 l0 (ji39)).f0) != 3) = false := bne_eq_false_iff_eq.mpr c42
                                    clear c42
                                    by_cases c43 : 1 + t188.size ≤ 9223372036854775807
                                    · rw [if_pos c43] at H
                                      have c43b0 := eq_true c43
                                      have c43b1 : decide (1 + t188.size ≤ 9223372036854775807) = true := decide_eq_true c43
                                      try have c43b2 : (9223372036854775807 < 1 + t188.size) = False := eq_false (Nat.not_lt.2 c43)
                                      by_cases c44 : ((⟨#[40]⟩ : ByteArray) ++ t188).size + 1 ≤ 9223372036854775807
                                      · rw [if_pos c44] at H
                                        have c44b0 := eq_true c44
                                        have c44b1 : decide (((⟨#[40]⟩ : ByteArray) ++ t188).size + 1 ≤ 9223372036854775807) = true := decide_eq_true c44
                                        try have c44b2 : (9223372036854775807 < ((⟨#[40]⟩ : ByteArray) ++ t188).size + 1) = False := eq_false (Nat.not_lt.2 c44)
                                        have c44b3 : (9223372036854775807 < 1 + t188.size + 1) = False := eq_false (by have h_ := c44; simp only [ByteArray.size_append, show (⟨#[40]⟩ : ByteArray).size = 1 from rfl] at h_; omega)
                                        by_cases c45 : (((⟨#[40]⟩ : ByteArray) ++ t183) ++ (⟨#[41]⟩ : ByteArray)).size + (((⟨#[40]⟩ : ByteArray) ++ t188) ++ (⟨#[41]⟩ : ByteArray)).size ≤ 9223372036854775807
                                        · rw [if_pos c45] at H
                                          have c45b0 := eq_true c45
                                          have c45b1 : decide ((((⟨#[40]⟩ : ByteArray) ++ t183) ++ (⟨#[41]⟩ : ByteArray)).size + (((⟨#[40]⟩ : ByteArray) ++ t188) ++ (⟨#[41]⟩ : ByteArray)).size ≤ 9223372036854775807) = true := decide_eq_true c45
                                          try have c45b2 : (9223372036854775807 < (((⟨#[40]⟩ : ByteArray) ++ t183) ++ (⟨#[41]⟩ : ByteArray)).size + (((⟨#[40]⟩ : ByteArray) ++ t188) ++ (⟨#[41]⟩ : ByteArray)).size) = False := eq_false (Nat.not_lt.2 c45)
                                          have c45b3 : (9223372036854775807 < 1 + t183.size + 1 + (1 + t188.size + 1)) = False := eq_false (by have h_ := c45; simp only [ByteArray.size_append, show (⟨#[40]⟩ : ByteArray).size = 1 from rfl, show (⟨#[41]⟩ : ByteArray).size = 1 from rfl] at h_; omega)
                                          obtain rfl := Option.some.inj H
                                          have p175 : 0 ≤ ((ji2) : Int) := of_decide_eq_true (by first | (with_reducible assumption) | assumption)
                                          have q175 : (ji2) < (l0.length : Int) := of_decide_eq_true (by first | (with_reducible assumption) | assumption)
                                          obtain ⟨ad175, e175, hx175_0, hx175_1⟩ := at_T34 HR0.out (ji2) p175 q175
                                          cases e175
                                          replace p175 := eq_true p175
                                          replace q175 := eq_true q175
                                          go_enter Try.func53, Try.ntmps53
                                          go_wp2_with (first | (go_at_call 65; (with_reducible refine (spec_l9Starts.calls k _ _ l0 ji39 t178 _ ?side1 ?side2 A10.out).mono ?_); (case side1 => repeat (first | exact HR0.out | (with_reducible refine Kd.C_alloc ?_ _) | (with_reducible refine Kd.C_drewN ?_ _) | (with_reducible refine Kd.C_drew ?_))); (case side2 => exact HC0.out); rintro e w' ⟨rfl, ⟨nd, rfl⟩⟩; (try first | exact ⟨rfl, _, World.drewN_drewN _ _ _⟩ | exact ⟨rfl, _, Eq.trans (World.drewN_drewN _ _ _) (congrArg (World.drewN _) (Nat.add_assoc _ _ _))⟩); have q46 : (t178 : Int) ≤ ((l0.length : Int) : Int) := of_decide_eq_true (by first | (with_reducible assumption) | assumption); obtain ⟨i046, hi046, _, hsz46, _⟩ := info_parts info34; have hroom46 : l0.length ≤ c0 := HC0.out; have hC46 : Kd.C k34 _ (some ad175) l0.length l0 := HR0.out; have hcut46 := cut_to (P := Try.prog) 25 34 .i64 Try.underlying25 hi046 (some ad175) l0.length c0 t178 (of_decide_eq_true (by first | (with_reducible assumption) | assumption)) q46 hroom46; have hr46 := Kd.C_take (m := (t178 : Int).toNat) hC46 (by omega); have hy46 : y179.length = (t178 : Int).toNat := (by rw [Ny179.out, List.length_take]; omega); rw [← Ny179.out] at hr46; rw [← hy46] at hcut46; have HR182 := Aside0.mk hr46; have HC182 := Aside0.mk (show y179.length ≤ c0 from by omega); clear hr46 hC46 hroom46 hi046 hsz46; have KY46 := Aside0.mk hy46; clear hy46; replace q46 := eq_true q46) | (go_at_call 53; (with_reducible refine (ih k (by omega) _ _ y179 t183 _ ?side1 ?side2 A13.out).mono ?_); (case side1 => repeat (first | exact HR182.out | (with_reducible refine Kd.C_alloc ?_ _) | (with_reducible refine Kd.C_drewN ?_ _) | (with_reducible refine Kd.C_drew ?_))); (case side2 => exact HC182.out); rintro e w' ⟨rfl, ⟨nd, rfl⟩⟩; (try first | exact ⟨rfl, _, World.drewN_drewN _ _ _⟩ | exact ⟨rfl, _, Eq.trans (World.drewN_drewN _ _ _) (congrArg (World.drewN _) (Nat.add_assoc _ _ _))⟩); have q47 : ((ji2) : Int) ≤ ((l0.length : Int) : Int) := of_decide_eq_true (by first | (with_reducible assumption) | assumption); obtain ⟨i047, hi047, _, hsz47, _⟩ := info_parts info34; have hroom47 : l0.length ≤ c0 := HC0.out; have hC47 : Kd.C k34 _ (some ad175) l0.length l0 := HR0.out; have ql47 : (t178 : Int) ≤ ((ji2) : Int) := of_decide_eq_true (by first | (with_reducible assumption) | assumption); have q047 : (0 : Int) ≤ (t178 : Int) := of_decide_eq_true (by first | (with_reducible assumption) | assumption); have hcut47 := cut_mid (P := Try.prog) 25 34 .i64 .i64 Try.underlying25 hi047 2 hsz47 (some ad175) l0.length c0 t178 (ji2) q047 ql47 q47 hroom47; have hr47 := Kd.C_mid (lo := (t178 : Int).toNat) (hi := ((ji2) : Int).toNat) (c := c0) hC47 (by omega) (by omega) hroom47; obtain ⟨A47, hA47⟩ : ∃ A1, A1 = (if c0 = (t178 : Int).toNat then (some ad175) else ((some ad175) : Option Addr).map (·.add ((t178 : Int).toNat * 2))) := ⟨_, rfl⟩; obtain ⟨c47, hc47⟩ : ∃ c1, c1 = c0 - (t178 : Int).toNat := ⟨_, rfl⟩; have hy47 : y184.length = ((ji2) : Int).toNat - (t178 : Int).toNat := (by rw [Ny184.out, List.length_drop, List.length_take] <;> omega); rw [show ((l0).take ((ji2) : Int).toNat).drop (t178 : Int).toNat = y184 from Ny184.out.symm] at hr47; replace hr47 : Kd.C k34 _ A47 y184.length y184 := (by rw [hA47]; exact hr47); rw [← hy47, ← hA47, ← hc47] at hcut47; have HR187 := Aside0.mk hr47; have HC187 := Aside0.mk (show y184.length ≤ c47 from by rw [hy47, hc47]; exact Nat.sub_le_sub_right (Nat.le_trans (by omega) hroom47) _); clear hr47 hC47 hroom47 hi047 hsz47 hc47; have KY47 := Aside0.mk hy47; have KA47 := Aside0.mk hA47; clear hy47 hA47; replace q47 := eq_true q47) | (go_at_call 53; (with_reducible refine (ih k (by omega) _ _ y184 t188 _ ?side1 ?side2 A17.out).mono ?_); (case side1 => repeat (first | exact HR187.out | (with_reducible refine Kd.C_alloc ?_ _) | (with_reducible refine Kd.C_drewN ?_ _) | (with_reducible refine Kd.C_drew ?_))); (case side2 => exact HC187.out); rintro e w' ⟨rfl, ⟨nd, rfl⟩⟩; (try first | exact ⟨rfl, _, World.drewN_drewN _ _ _⟩ | exact ⟨rfl, _, Eq.trans (World.drewN_drewN _ _ _) (congrArg (World.drewN _) (Nat.add_assoc _ _ _))⟩); have p189 : 0 ≤ ((ji2) : Int) := of_decide_eq_true (by first | (with_reducible assumption) | assumption); have q189 : (ji2) < (l0.length : Int) := of_decide_eq_true (by first | (with_reducible assumption) | assumption); obtain ⟨ad189, e189, hx189_0, hx189_1⟩ := at_T34 HR0.out (ji2) p189 q189; obtain rfl : ad175 = ad189 := (by injection e189); replace p189 := eq_true p189; replace q189 := eq_true q189; have p191 : 0 ≤ ((ji33) : Int) := of_decide_eq_true (by first | (with_reducible assumption) | assumption); have q191 : (ji33) < (l0.length : Int) := of_decide_eq_true (by first | (with_reducible assumption) | assumption); obtain ⟨ad191, e191, hx191_0, hx191_1⟩ := at_T34 HR0.out (ji33) p191 q191; obtain rfl : ad175 = ad191 := (by injection e191); replace p191 := eq_true p191; replace q191 := eq_true q191; have p192 : 0 ≤ ((ji39) : Int) := of_decide_eq_true (by first | (with_reducible assumption) | assumption); have q192 : (ji39) < (l0.length : Int) := of_decide_eq_true (by first | (with_reducible assumption) | assumption); obtain ⟨ad192, e192, hx192_0, hx192_1⟩ := at_T34 HR0.out (ji39) p192 q192; obtain rfl : ad175 = ad192 := (by injection e192); replace p192 := eq_true p192; replace q192 := eq_true q192))
                                          go_ret
                                          exact ⟨by first | rfl | (simp; done) | (simp only [← hji2, ← hji33, ← hji39] <;> (first | rfl | simp)) | (simp [*]; done), by repeat (first | exact Drawn0.refl _ | apply Drawn0.step)⟩
                                        · rw [if_neg c45] at H
                                          exact absurd H (by simp)
                                      · rw [if_neg c44] at H
                                        exact absurd H (by simp)
                                    · rw [if_neg c43] at H
                                      exact absurd H (by simp)
                                  · rw [if_neg c42] at H
                                    have c42b0 : (((rd_T34 l0 (ji39)).f0) == 3) = false := beq_eq_false_iff_ne.mpr c42
                                    have c42b1 : (((rd_T34 l0 (ji39)).f0) != 3) = true := bne_iff_ne.mpr c42
                                    by_cases c48 : ((rd_T34 l0 (ji39)).f0) = 2
                                    · rw [if_pos c48] at H
                                      have c48b0 : (((rd_T34 l0 (ji39)).f0) == 2) = true := beq_iff_eq.mpr c48
                                      have c48b1 : (((rd_T34 l0 (ji39)).f0) != 2) = false := bne_eq_false_iff_eq.mpr c48
                                      clear c48
                                      by_cases c49 : 1 + t188.size ≤ 9223372036854775807
                                      · rw [if_pos c49] at H
                                        have c49b0 := eq_true c49
                                        have c49b1 : decide (1 + t188.size ≤ 9223372036854775807) = true := decide_eq_true c49
                                        try have c49b2 : (9223372036854775807 < 1 + t188.size) = False := eq_false (Nat.not_lt.2 c49)
                                        by_cases c50 : ((⟨#[40]⟩ : ByteArray) ++ t188).size + 1 ≤ 9223372036854775807
                                        · rw [if_pos c50] at H
                                          have c50b0 := eq_true c50
                                          have c50b1 : decide (((⟨#[40]⟩ : ByteArray) ++ t188).size + 1 ≤ 9223372036854775807) = true := decide_eq_true c50
                                          try have c50b2 : (9223372036854775807 < ((⟨#[40]⟩ : ByteArray) ++ t188).size + 1) = False := eq_false (Nat.not_lt.2 c50)
                                          have c50b3 : (9223372036854775807 < 1 + t188.size + 1) = False := eq_false (by have h_ := c50; simp only [ByteArray.size_append, show (⟨#[40]⟩ : ByteArray).size = 1 from rfl] at h_; omega)
                                          by_cases c51 : (((⟨#[40]⟩ : ByteArray) ++ t183) ++ (⟨#[41]⟩ : ByteArray)).size + (((⟨#[40]⟩ : ByteArray) ++ t188) ++ (⟨#[41]⟩ : ByteArray)).size ≤ 9223372036854775807
                                          · rw [if_pos c51] at H
                                            have c51b0 := eq_true c51
                                            have c51b1 : decide ((((⟨#[40]⟩ : ByteArray) ++ t183) ++ (⟨#[41]⟩ : ByteArray)).size + (((⟨#[40]⟩ : ByteArray) ++ t188) ++ (⟨#[41]⟩ : ByteArray)).size ≤ 9223372036854775807) = true := decide_eq_true c51
                                            try have c51b2 : (9223372036854775807 < (((⟨#[40]⟩ : ByteArray) ++ t183) ++ (⟨#[41]⟩ : ByteArray)).size + (((⟨#[40]⟩ : ByteArray) ++ t188) ++ (⟨#[41]⟩ : ByteArray)).size) = False := eq_false (Nat.not_lt.2 c51)
                                            have c51b3 : (9223372036854775807 < 1 + t183.size + 1 + (1 + t188.size + 1)) = False := eq_false (by have h_ := c51; simp only [ByteArray.size_append, show (⟨#[40]⟩ : ByteArray).size = 1 from rfl, show (⟨#[41]⟩ : ByteArray).size = 1 from rfl] at h_; omega)
                                            obtain rfl := Option.some.inj H
                                            have p175 : 0 ≤ ((ji2) : Int) := of_decide_eq_true (by first | (with_reducible assumption) | assumption)
                                            have q175 : (ji2) < (l0.length : Int) := of_decide_eq_true (by first | (with_reducible assumption) | assumption)
                                            obtain ⟨ad175, e175, hx175_0, hx175_1⟩ := at_T34 HR0.out (ji2) p175 q175
                                            cases e175
                                            replace p175 := eq_true p175
                                            replace q175 := eq_true q175
                                            go_enter Try.func53, Try.ntmps53
                                            go_wp2_with (first | (go_at_call 65; (with_reducible refine (spec_l9Starts.calls k _ _ l0 ji39 t178 _ ?side1 ?side2 A10.out).mono ?_); (case side1 => repeat (first | exact HR0.out | (with_reducible refine Kd.C_alloc ?_ _) | (with_reducible refine Kd.C_drewN ?_ _) | (with_reducible refine Kd.C_drew ?_))); (case side2 => exact HC0.out); rintro e w' ⟨rfl, ⟨nd, rfl⟩⟩; (try first | exact ⟨rfl, _, World.drewN_drewN _ _ _⟩ | exact ⟨rfl, _, Eq.trans (World.drewN_drewN _ _ _) (congrArg (World.drewN _) (Nat.add_assoc _ _ _))⟩); have q52 : (t178 : Int) ≤ ((l0.length : Int) : Int) := of_decide_eq_true (by first | (with_reducible assumption) | assumption); obtain ⟨i052, hi052, _, hsz52, _⟩ := info_parts info34; have hroom52 : l0.length ≤ c0 := HC0.out; have hC52 : Kd.C k34 _ (some ad175) l0.length l0 := HR0.out; have hcut52 := cut_to (P := Try.prog) 25 34 .i64 Try.underlying25 hi052 (some ad175) l0.length c0 t178 (of_decide_eq_true (by first | (with_reducible assumption) | assumption)) q52 hroom52; have hr52 := Kd.C_take (m := (t178 : Int).toNat) hC52 (by omega); have hy52 : y179.length = (t178 : Int).toNat := (by rw [Ny179.out, List.length_take]; omega); rw [← Ny179.out] at hr52; rw [← hy52] at hcut52; have HR182 := Aside0.mk hr52; have HC182 := Aside0.mk (show y179.length ≤ c0 from by omega); clear hr52 hC52 hroom52 hi052 hsz52; have KY52 := Aside0.mk hy52; clear hy52; replace q52 := eq_true q52) | (go_at_call 53; (with_reducible refine (ih k (by omega) _ _ y179 t183 _ ?side1 ?side2 A13.out).mono ?_); (case side1 => repeat (first | exact HR182.out | (with_reducible refine Kd.C_alloc ?_ _) | (with_reducible refine Kd.C_drewN ?_ _) | (with_reducible refine Kd.C_drew ?_))); (case side2 => exact HC182.out); rintro e w' ⟨rfl, ⟨nd, rfl⟩⟩; (try first | exact ⟨rfl, _, World.drewN_drewN _ _ _⟩ | exact ⟨rfl, _, Eq.trans (World.drewN_drewN _ _ _) (congrArg (World.drewN _) (Nat.add_assoc _ _ _))⟩); have q53 : ((ji2) : Int) ≤ ((l0.length : Int) : Int) := of_decide_eq_true (by first | (with_reducible assumption) | assumption); obtain ⟨i053, hi053, _, hsz53, _⟩ := info_parts info34; have hroom53 : l0.length ≤ c0 := HC0.out; have hC53 : Kd.C k34 _ (some ad175) l0.length l0 := HR0.out; have ql53 : (t178 : Int) ≤ ((ji2) : Int) := of_decide_eq_true (by first | (with_reducible assumption) | assumption); have q053 : (0 : Int) ≤ (t178 : Int) := of_decide_eq_true (by first | (with_reducible assumption) | assumption); have hcut53 := cut_mid (P := Try.prog) 25 34 .i64 .i64 Try.underlying25 hi053 2 hsz53 (some ad175) l0.length c0 t178 (ji2) q053 ql53 q53 hroom53; have hr53 := Kd.C_mid (lo := (t178 : Int).toNat) (hi := ((ji2) : Int).toNat) (c := c0) hC53 (by omega) (by omega) hroom53; obtain ⟨A53, hA53⟩ : ∃ A1, A1 = (if c0 = (t178 : Int).toNat then (some ad175) else ((some ad175) : Option Addr).map (·.add ((t178 : Int).toNat * 2))) := ⟨_, rfl⟩; obtain ⟨c53, hc53⟩ : ∃ c1, c1 = c0 - (t178 : Int).toNat := ⟨_, rfl⟩; have hy53 : y184.length = ((ji2) : Int).toNat - (t178 : Int).toNat := (by rw [Ny184.out, List.length_drop, List.length_take] <;> omega); rw [show ((l0).take ((ji2) : Int).toNat).drop (t178 : Int).toNat = y184 from Ny184.out.symm] at hr53; replace hr53 : Kd.C k34 _ A53 y184.length y184 := (by rw [hA53]; exact hr53); rw [← hy53, ← hA53, ← hc53] at hcut53; have HR187 := Aside0.mk hr53; have HC187 := Aside0.mk (show y184.length ≤ c53 from by rw [hy53, hc53]; exact Nat.sub_le_sub_right (Nat.le_trans (by omega) hroom53) _); clear hr53 hC53 hroom53 hi053 hsz53 hc53; have KY53 := Aside0.mk hy53; have KA53 := Aside0.mk hA53; clear hy53 hA53; replace q53 := eq_true q53) | (go_at_call 53; (with_reducible refine (ih k (by omega) _ _ y184 t188 _ ?side1 ?side2 A17.out).mono ?_); (case side1 => repeat (first | exact HR187.out | (with_reducible refine Kd.C_alloc ?_ _) | (with_reducible refine Kd.C_drewN ?_ _) | (with_reducible refine Kd.C_drew ?_))); (case side2 => exact HC187.out); rintro e w' ⟨rfl, ⟨nd, rfl⟩⟩; (try first | exact ⟨rfl, _, World.drewN_drewN _ _ _⟩ | exact ⟨rfl, _, Eq.trans (World.drewN_drewN _ _ _) (congrArg (World.drewN _) (Nat.add_assoc _ _ _))⟩); have p189 : 0 ≤ ((ji2) : Int) := of_decide_eq_true (by first | (with_reducible assumption) | assumption); have q189 : (ji2) < (l0.length : Int) := of_decide_eq_true (by first | (with_reducible assumption) | assumption); obtain ⟨ad189, e189, hx189_0, hx189_1⟩ := at_T34 HR0.out (ji2) p189 q189; obtain rfl : ad175 = ad189 := (by injection e189); replace p189 := eq_true p189; replace q189 := eq_true q189; have p191 : 0 ≤ ((ji33) : Int) := of_decide_eq_true (by first | (with_reducible assumption) | assumption); have q191 : (ji33) < (l0.length : Int) := of_decide_eq_true (by first | (with_reducible assumption) | assumption); obtain ⟨ad191, e191, hx191_0, hx191_1⟩ := at_T34 HR0.out (ji33) p191 q191; obtain rfl : ad175 = ad191 := (by injection e191); replace p191 := eq_true p191; replace q191 := eq_true q191; have p192 : 0 ≤ ((ji39) : Int) := of_decide_eq_true (by first | (with_reducible assumption) | assumption); have q192 : (ji39) < (l0.length : Int) := of_decide_eq_true (by first | (with_reducible assumption) | assumption); obtain ⟨ad192, e192, hx192_0, hx192_1⟩ := at_T34 HR0.out (ji39) p192 q192; obtain rfl : ad175 = ad192 := (by injection e192); replace p192 := eq_true p192; replace q192 := eq_true q192; have p193 : 0 ≤ ((ji39) : Int) := of_decide_eq_true (by first | (with_reducible assumption) | assumption); have q193 : (ji39) < (l0.length : Int) := of_decide_eq_true (by first | (with_reducible assumption) | assumption); obtain ⟨ad193, e193, hx193_0, hx193_1⟩ := at_T34 HR0.out (ji39) p193 q193; obtain rfl : ad175 = ad193 := (by injection e193); replace p193 := eq_true p193; replace q193 := eq_true q193))
                                            go_ret
                                            exact ⟨by first | rfl | (simp; done) | (simp only [← hji2, ← hji33, ← hji39] <;> (first | rfl | simp)) | (simp [*]; done), by repeat (first | exact Drawn0.refl _ | apply Drawn0.step)⟩
                                          · rw [if_neg c51] at H
                                            exact absurd H (by simp)
                                        · rw [if_neg c50] at H
                                          exact absurd H (by simp)
                                      · rw [if_neg c49] at H
                                        exact absurd H (by simp)
                                    · rw [if_neg c48] at H
                                      have c48b0 : (((rd_T34 l0 (ji39)).f0) == 2) = false := beq_eq_false_iff_ne.mpr c48
                                      have c48b1 : (((rd_T34 l0 (ji39)).f0) != 2) = true := bne_iff_ne.mpr c48
                                      by_cases c54 : (((⟨#[40]⟩ : ByteArray) ++ t183) ++ (⟨#[41]⟩ : ByteArray)).size + t188.size ≤ 9223372036854775807
                                      · rw [if_pos c54] at H
                                        have c54b0 := eq_true c54
                                        have c54b1 : decide ((((⟨#[40]⟩ : ByteArray) ++ t183) ++ (⟨#[41]⟩ : ByteArray)).size + t188.size ≤ 9223372036854775807) = true := decide_eq_true c54
                                        try have c54b2 : (9223372036854775807 < (((⟨#[40]⟩ : ByteArray) ++ t183) ++ (⟨#[41]⟩ : ByteArray)).size + t188.size) = False := eq_false (Nat.not_lt.2 c54)
                                        have c54b3 : (9223372036854775807 < 1 + t183.size + 1 + t188.size) = False := eq_false (by have h_ := c54; simp only [ByteArray.size_append, show (⟨#[40]⟩ : ByteArray).size = 1 from rfl, show (⟨#[41]⟩ : ByteArray).size = 1 from rfl] at h_; omega)
                                        obtain rfl := Option.some.inj H
                                        have p175 : 0 ≤ ((ji2) : Int) := of_decide_eq_true (by first | (with_reducible assumption) | assumption)
                                        have q175 : (ji2) < (l0.length : Int) := of_decide_eq_true (by first | (with_reducible assumption) | assumption)
                                        obtain ⟨ad175, e175, hx175_0, hx175_1⟩ := at_T34 HR0.out (ji2) p175 q175
                                        cases e175
                                        replace p175 := eq_true p175
                                        replace q175 := eq_true q175
                                        go_enter Try.func53, Try.ntmps53
                                        go_wp2_with (first | (go_at_call 65; (with_reducible refine (spec_l9Starts.calls k _ _ l0 ji39 t178 _ ?side1 ?side2 A10.out).mono ?_); (case side1 => repeat (first | exact HR0.out | (with_reducible refine Kd.C_alloc ?_ _) | (with_reducible refine Kd.C_drewN ?_ _) | (with_reducible refine Kd.C_drew ?_))); (case side2 => exact HC0.out); rintro e w' ⟨rfl, ⟨nd, rfl⟩⟩; (try first | exact ⟨rfl, _, World.drewN_drewN _ _ _⟩ | exact ⟨rfl, _, Eq.trans (World.drewN_drewN _ _ _) (congrArg (World.drewN _) (Nat.add_assoc _ _ _))⟩); have q55 : (t178 : Int) ≤ ((l0.length : Int) : Int) := of_decide_eq_true (by first | (with_reducible assumption) | assumption); obtain ⟨i055, hi055, _, hsz55, _⟩ := info_parts info34; have hroom55 : l0.length ≤ c0 := HC0.out; have hC55 : Kd.C k34 _ (some ad175) l0.length l0 := HR0.out; have hcut55 := cut_to (P := Try.prog) 25 34 .i64 Try.underlying25 hi055 (some ad175) l0.length c0 t178 (of_decide_eq_true (by first | (with_reducible assumption) | assumption)) q55 hroom55; have hr55 := Kd.C_take (m := (t178 : Int).toNat) hC55 (by omega); have hy55 : y179.length = (t178 : Int).toNat := (by rw [Ny179.out, List.length_take]; omega); rw [← Ny179.out] at hr55; rw [← hy55] at hcut55; have HR182 := Aside0.mk hr55; have HC182 := Aside0.mk (show y179.length ≤ c0 from by omega); clear hr55 hC55 hroom55 hi055 hsz55; have KY55 := Aside0.mk hy55; clear hy55; replace q55 := eq_true q55) | (go_at_call 53; (with_reducible refine (ih k (by omega) _ _ y179 t183 _ ?side1 ?side2 A13.out).mono ?_); (case side1 => repeat (first | exact HR182.out | (with_reducible refine Kd.C_alloc ?_ _) | (with_reducible refine Kd.C_drewN ?_ _) | (with_reducible refine Kd.C_drew ?_))); (case side2 => exact HC182.out); rintro e w' ⟨rfl, ⟨nd, rfl⟩⟩; (try first | exact ⟨rfl, _, World.drewN_drewN _ _ _⟩ | exact ⟨rfl, _, Eq.trans (World.drewN_drewN _ _ _) (congrArg (World.drewN _) (Nat.add_assoc _ _ _))⟩); have q56 : ((ji2) : Int) ≤ ((l0.length : Int) : Int) := of_decide_eq_true (by first | (with_reducible assumption) | assumption); obtain ⟨i056, hi056, _, hsz56, _⟩ := info_parts info34; have hroom56 : l0.length ≤ c0 := HC0.out; have hC56 : Kd.C k34 _ (some ad175) l0.length l0 := HR0.out; have ql56 : (t178 : Int) ≤ ((ji2) : Int) := of_decide_eq_true (by first | (with_reducible assumption) | assumption); have q056 : (0 : Int) ≤ (t178 : Int) := of_decide_eq_true (by first | (with_reducible assumption) | assumption); have hcut56 := cut_mid (P := Try.prog) 25 34 .i64 .i64 Try.underlying25 hi056 2 hsz56 (some ad175) l0.length c0 t178 (ji2) q056 ql56 q56 hroom56; have hr56 := Kd.C_mid (lo := (t178 : Int).toNat) (hi := ((ji2) : Int).toNat) (c := c0) hC56 (by omega) (by omega) hroom56; obtain ⟨A56, hA56⟩ : ∃ A1, A1 = (if c0 = (t178 : Int).toNat then (some ad175) else ((some ad175) : Option Addr).map (·.add ((t178 : Int).toNat * 2))) := ⟨_, rfl⟩; obtain ⟨c56, hc56⟩ : ∃ c1, c1 = c0 - (t178 : Int).toNat := ⟨_, rfl⟩; have hy56 : y184.length = ((ji2) : Int).toNat - (t178 : Int).toNat := (by rw [Ny184.out, List.length_drop, List.length_take] <;> omega); rw [show ((l0).take ((ji2) : Int).toNat).drop (t178 : Int).toNat = y184 from Ny184.out.symm] at hr56; replace hr56 : Kd.C k34 _ A56 y184.length y184 := (by rw [hA56]; exact hr56); rw [← hy56, ← hA56, ← hc56] at hcut56; have HR187 := Aside0.mk hr56; have HC187 := Aside0.mk (show y184.length ≤ c56 from by rw [hy56, hc56]; exact Nat.sub_le_sub_right (Nat.le_trans (by omega) hroom56) _); clear hr56 hC56 hroom56 hi056 hsz56 hc56; have KY56 := Aside0.mk hy56; have KA56 := Aside0.mk hA56; clear hy56 hA56; replace q56 := eq_true q56) | (go_at_call 53; (with_reducible refine (ih k (by omega) _ _ y184 t188 _ ?side1 ?side2 A17.out).mono ?_); (case side1 => repeat (first | exact HR187.out | (with_reducible refine Kd.C_alloc ?_ _) | (with_reducible refine Kd.C_drewN ?_ _) | (with_reducible refine Kd.C_drew ?_))); (case side2 => exact HC187.out); rintro e w' ⟨rfl, ⟨nd, rfl⟩⟩; (try first | exact ⟨rfl, _, World.drewN_drewN _ _ _⟩ | exact ⟨rfl, _, Eq.trans (World.drewN_drewN _ _ _) (congrArg (World.drewN _) (Nat.add_assoc _ _ _))⟩); have p189 : 0 ≤ ((ji2) : Int) := of_decide_eq_true (by first | (with_reducible assumption) | assumption); have q189 : (ji2) < (l0.length : Int) := of_decide_eq_true (by first | (with_reducible assumption) | assumption); obtain ⟨ad189, e189, hx189_0, hx189_1⟩ := at_T34 HR0.out (ji2) p189 q189; obtain rfl : ad175 = ad189 := (by injection e189); replace p189 := eq_true p189; replace q189 := eq_true q189; have p191 : 0 ≤ ((ji33) : Int) := of_decide_eq_true (by first | (with_reducible assumption) | assumption); have q191 : (ji33) < (l0.length : Int) := of_decide_eq_true (by first | (with_reducible assumption) | assumption); obtain ⟨ad191, e191, hx191_0, hx191_1⟩ := at_T34 HR0.out (ji33) p191 q191; obtain rfl : ad175 = ad191 := (by injection e191); replace p191 := eq_true p191; replace q191 := eq_true q191; have p192 : 0 ≤ ((ji39) : Int) := of_decide_eq_true (by first | (with_reducible assumption) | assumption); have q192 : (ji39) < (l0.length : Int) := of_decide_eq_true (by first | (with_reducible assumption) | assumption); obtain ⟨ad192, e192, hx192_0, hx192_1⟩ := at_T34 HR0.out (ji39) p192 q192; obtain rfl : ad175 = ad192 := (by injection e192); replace p192 := eq_true p192; replace q192 := eq_true q192; have p193 : 0 ≤ ((ji39) : Int) := of_decide_eq_true (by first | (with_reducible assumption) | assumption); have q193 : (ji39) < (l0.length : Int) := of_decide_eq_true (by first | (with_reducible assumption) | assumption); obtain ⟨ad193, e193, hx193_0, hx193_1⟩ := at_T34 HR0.out (ji39) p193 q193; obtain rfl : ad175 = ad193 := (by injection e193); replace p193 := eq_true p193; replace q193 := eq_true q193))
                                        go_ret
                                        exact ⟨by first | rfl | (simp; done) | (simp only [← hji2, ← hji33, ← hji39] <;> (first | rfl | simp)) | (simp [*]; done), by repeat (first | exact Drawn0.refl _ | apply Drawn0.step)⟩
                                      · rw [if_neg c54] at H
                                        exact absurd H (by simp)
                                · rw [if_neg c41] at H
                                  exact absurd H (by simp)
                              · rw [if_neg c40] at H
                                exact absurd H (by simp)
                            · rw [if_neg c38] at H
                              exact absurd H (by simp)
                          · rw [if_neg c37] at H
                            exact absurd H (by simp)
                        · rw [if_neg c36] at H
                          have c36b0 : (((rd_T34 l0 (ji33)).f0) == 3) = false := beq_eq_false_iff_ne.mpr c36
                          have c36b1 : (((rd_T34 l0 (ji33)).f0) != 3) = true := bne_iff_ne.mpr c36
                          obtain ⟨ji57, hji57⟩ : ∃ j_ : Int, (wrap64 ((ji2) - 1)) = j_ := ⟨_, rfl⟩
                          replace H : (if 0 ≤ (ji57) then (if (ji57) < (l0.length : Int) then (if ((rd_T34 l0 (ji57)).f0) = 3 then (if 1 + t188.size ≤ 9223372036854775807 then (if ((⟨#[40]⟩ : ByteArray) ++ t188).size + 1 ≤ 9223372036854775807 then (if t183.size + (((⟨#[40]⟩ : ByteArray) ++ t188) ++ (⟨#[41]⟩ : ByteArray)).size ≤ 9223372036854775807 then (some (t183 ++ (((⟨#[40]⟩ : ByteArray) ++ t188) ++ (⟨#[41]⟩ : ByteArray)))) else (none)) else (none)) else (none)) else (if ((rd_T34 l0 (ji57)).f0) = 2 then (if 1 + t188.size ≤ 9223372036854775807 then (if ((⟨#[40]⟩ : ByteArray) ++ t188).size + 1 ≤ 9223372036854775807 then (if t183.size + (((⟨#[40]⟩ : ByteArray) ++ t188) ++ (⟨#[41]⟩ : ByteArray)).size ≤ 9223372036854775807 then (some (t183 ++ (((⟨#[40]⟩ : ByteArray) ++ t188) ++ (⟨#[41]⟩ : ByteArray)))) else (none)) else (none)) else (none)) else (if t183.size + t188.size ≤ 9223372036854775807 then (some (t183 ++ t188)) else (none)))) else (none)) else (none)) = some r := by first | (rw [hji57] at H; exact H) | (simp only [hji57] at H ⊢; exact H)
                          (try rw [hji57] at A10)
                          (try rw [hji57] at A13)
                          (try rw [hji57] at A17)
                          have hji57w : (IntKind.i64.wrap ((ji2) - 1)) = ji57 := (i64_w _).trans hji57
                          by_cases c58 : 0 ≤ (ji57)
                          · rw [if_pos c58] at H
                            have c58b0 : decide (0 ≤ (ji57)) = true := decide_eq_true c58
                            clear c58
                            by_cases c59 : (ji57) < (l0.length : Int)
                            · rw [if_pos c59] at H
                              have c59b0 : decide ((ji57) < (l0.length : Int)) = true := decide_eq_true c59
                              clear c59
                              by_cases c60 : ((rd_T34 l0 (ji57)).f0) = 3
                              · rw [if_pos c60] at H
                                have c60b0 : (((rd_T34 l0 (ji57)).f0) == 3) = true := beq_iff_eq.mpr c60
                                have c60b1 : (((rd_T34 l0 (ji57)).f0) != 3) = false := bne_eq_false_iff_eq.mpr c60
                                clear c60
                                by_cases c61 : 1 + t188.size ≤ 9223372036854775807
                                · rw [if_pos c61] at H
                                  have c61b0 := eq_true c61
                                  have c61b1 : decide (1 + t188.size ≤ 9223372036854775807) = true := decide_eq_true c61
                                  try have c61b2 : (9223372036854775807 < 1 + t188.size) = False := eq_false (Nat.not_lt.2 c61)
                                  by_cases c62 : ((⟨#[40]⟩ : ByteArray) ++ t188).size + 1 ≤ 9223372036854775807
                                  · rw [if_pos c62] at H
                                    have c62b0 := eq_true c62
                                    have c62b1 : decide (((⟨#[40]⟩ : ByteArray) ++ t188).size + 1 ≤ 9223372036854775807) = true := decide_eq_true c62
                                    try have c62b2 : (9223372036854775807 < ((⟨#[40]⟩ : ByteArray) ++ t188).size + 1) = False := eq_false (Nat.not_lt.2 c62)
                                    have c62b3 : (9223372036854775807 < 1 + t188.size + 1) = False := eq_false (by have h_ := c62; simp only [ByteArray.size_append, show (⟨#[40]⟩ : ByteArray).size = 1 from rfl] at h_; omega)
                                    by_cases c63 : t183.size + (((⟨#[40]⟩ : ByteArray) ++ t188) ++ (⟨#[41]⟩ : ByteArray)).size ≤ 9223372036854775807
                                    · rw [if_pos c63] at H
                                      have c63b0 := eq_true c63
                                      have c63b1 : decide (t183.size + (((⟨#[40]⟩ : ByteArray) ++ t188) ++ (⟨#[41]⟩ : ByteArray)).size ≤ 9223372036854775807) = true := decide_eq_true c63
                                      try have c63b2 : (9223372036854775807 < t183.size + (((⟨#[40]⟩ : ByteArray) ++ t188) ++ (⟨#[41]⟩ : ByteArray)).size) = False := eq_false (Nat.not_lt.2 c63)
                                      have c63b3 : (9223372036854775807 < t183.size + (1 + t188.size + 1)) = False := eq_false (by have h_ := c63; simp only [ByteArray.size_append, show (⟨#[40]⟩ : ByteArray).size = 1 from rfl, show (⟨#[41]⟩ : ByteArray).size = 1 from rfl] at h_; omega)
                                      obtain rfl := Option.some.inj H
                                      have p175 : 0 ≤ ((ji2) : Int) := of_decide_eq_true (by first | (with_reducible assumption) | assumption)
                                      have q175 : (ji2) < (l0.length : Int) := of_decide_eq_true (by first | (with_reducible assumption) | assumption)
                                      obtain ⟨ad175, e175, hx175_0, hx175_1⟩ := at_T34 HR0.out (ji2) p175 q175
                                      cases e175
                                      replace p175 := eq_true p175
                                      replace q175 := eq_true q175
                                      go_enter Try.func53, Try.ntmps53
                                      go_wp2_with (first | (go_at_call 65; (with_reducible refine (spec_l9Starts.calls k _ _ l0 ji57 t178 _ ?side1 ?side2 A10.out).mono ?_); (case side1 => repeat (first | exact HR0.out | (with_reducible refine Kd.C_alloc ?_ _) | (with_reducible refine Kd.C_drewN ?_ _) | (with_reducible refine Kd.C_drew ?_))); (case side2 => exact HC0.out); rintro e w' ⟨rfl, ⟨nd, rfl⟩⟩; (try first | exact ⟨rfl, _, World.drewN_drewN _ _ _⟩ | exact ⟨rfl, _, Eq.trans (World.drewN_drewN _ _ _) (congrArg (World.drewN _) (Nat.add_assoc _ _ _))⟩); have q64 : (t178 : Int) ≤ ((l0.length : Int) : Int) := of_decide_eq_true (by first | (with_reducible assumption) | assumption); obtain ⟨i064, hi064, _, hsz64, _⟩ := info_parts info34; have hroom64 : l0.length ≤ c0 := HC0.out; have hC64 : Kd.C k34 _ (some ad175) l0.length l0 := HR0.out; have hcut64 := cut_to (P := Try.prog) 25 34 .i64 Try.underlying25 hi064 (some ad175) l0.length c0 t178 (of_decide_eq_true (by first | (with_reducible assumption) | assumption)) q64 hroom64; have hr64 := Kd.C_take (m := (t178 : Int).toNat) hC64 (by omega); have hy64 : y179.length = (t178 : Int).toNat := (by rw [Ny179.out, List.length_take]; omega); rw [← Ny179.out] at hr64; rw [← hy64] at hcut64; have HR182 := Aside0.mk hr64; have HC182 := Aside0.mk (show y179.length ≤ c0 from by omega); clear hr64 hC64 hroom64 hi064 hsz64; have KY64 := Aside0.mk hy64; clear hy64; replace q64 := eq_true q64) | (go_at_call 53; (with_reducible refine (ih k (by omega) _ _ y179 t183 _ ?side1 ?side2 A13.out).mono ?_); (case side1 => repeat (first | exact HR182.out | (with_reducible refine Kd.C_alloc ?_ _) | (with_reducible refine Kd.C_drewN ?_ _) | (with_reducible refine Kd.C_drew ?_))); (case side2 => exact HC182.out); rintro e w' ⟨rfl, ⟨nd, rfl⟩⟩; (try first | exact ⟨rfl, _, World.drewN_drewN _ _ _⟩ | exact ⟨rfl, _, Eq.trans (World.drewN_drewN _ _ _) (congrArg (World.drewN _) (Nat.add_assoc _ _ _))⟩); have q65 : ((ji2) : Int) ≤ ((l0.length : Int) : Int) := of_decide_eq_true (by first | (with_reducible assumption) | assumption); obtain ⟨i065, hi065, _, hsz65, _⟩ := info_parts info34; have hroom65 : l0.length ≤ c0 := HC0.out; have hC65 : Kd.C k34 _ (some ad175) l0.length l0 := HR0.out; have ql65 : (t178 : Int) ≤ ((ji2) : Int) := of_decide_eq_true (by first | (with_reducible assumption) | assumption); have q065 : (0 : Int) ≤ (t178 : Int) := of_decide_eq_true (by first | (with_reducible assumption) | assumption); have hcut65 := cut_mid (P := Try.prog) 25 34 .i64 .i64 Try.underlying25 hi065 2 hsz65 (some ad175) l0.length c0 t178 (ji2) q065 ql65 q65 hroom65; have hr65 := Kd.C_mid (lo := (t178 : Int).toNat) (hi := ((ji2) : Int).toNat) (c := c0) hC65 (by omega) (by omega) hroom65; obtain ⟨A65, hA65⟩ : ∃ A1, A1 = (if c0 = (t178 : Int).toNat then (some ad175) else ((some ad175) : Option Addr).map (·.add ((t178 : Int).toNat * 2))) := ⟨_, rfl⟩; obtain ⟨c65, hc65⟩ : ∃ c1, c1 = c0 - (t178 : Int).toNat := ⟨_, rfl⟩; have hy65 : y184.length = ((ji2) : Int).toNat - (t178 : Int).toNat := (by rw [Ny184.out, List.length_drop, List.length_take] <;> omega); rw [show ((l0).take ((ji2) : Int).toNat).drop (t178 : Int).toNat = y184 from Ny184.out.symm] at hr65; replace hr65 : Kd.C k34 _ A65 y184.length y184 := (by rw [hA65]; exact hr65); rw [← hy65, ← hA65, ← hc65] at hcut65; have HR187 := Aside0.mk hr65; have HC187 := Aside0.mk (show y184.length ≤ c65 from by rw [hy65, hc65]; exact Nat.sub_le_sub_right (Nat.le_trans (by omega) hroom65) _); clear hr65 hC65 hroom65 hi065 hsz65 hc65; have KY65 := Aside0.mk hy65; have KA65 := Aside0.mk hA65; clear hy65 hA65; replace q65 := eq_true q65) | (go_at_call 53; (with_reducible refine (ih k (by omega) _ _ y184 t188 _ ?side1 ?side2 A17.out).mono ?_); (case side1 => repeat (first | exact HR187.out | (with_reducible refine Kd.C_alloc ?_ _) | (with_reducible refine Kd.C_drewN ?_ _) | (with_reducible refine Kd.C_drew ?_))); (case side2 => exact HC187.out); rintro e w' ⟨rfl, ⟨nd, rfl⟩⟩; (try first | exact ⟨rfl, _, World.drewN_drewN _ _ _⟩ | exact ⟨rfl, _, Eq.trans (World.drewN_drewN _ _ _) (congrArg (World.drewN _) (Nat.add_assoc _ _ _))⟩); have p189 : 0 ≤ ((ji2) : Int) := of_decide_eq_true (by first | (with_reducible assumption) | assumption); have q189 : (ji2) < (l0.length : Int) := of_decide_eq_true (by first | (with_reducible assumption) | assumption); obtain ⟨ad189, e189, hx189_0, hx189_1⟩ := at_T34 HR0.out (ji2) p189 q189; obtain rfl : ad175 = ad189 := (by injection e189); replace p189 := eq_true p189; replace q189 := eq_true q189; have p191 : 0 ≤ ((ji33) : Int) := of_decide_eq_true (by first | (with_reducible assumption) | assumption); have q191 : (ji33) < (l0.length : Int) := of_decide_eq_true (by first | (with_reducible assumption) | assumption); obtain ⟨ad191, e191, hx191_0, hx191_1⟩ := at_T34 HR0.out (ji33) p191 q191; obtain rfl : ad175 = ad191 := (by injection e191); replace p191 := eq_true p191; replace q191 := eq_true q191; have p194 : 0 ≤ ((ji57) : Int) := of_decide_eq_true (by first | (with_reducible assumption) | assumption); have q194 : (ji57) < (l0.length : Int) := of_decide_eq_true (by first | (with_reducible assumption) | assumption); obtain ⟨ad194, e194, hx194_0, hx194_1⟩ := at_T34 HR0.out (ji57) p194 q194; obtain rfl : ad175 = ad194 := (by injection e194); replace p194 := eq_true p194; replace q194 := eq_true q194))
                                      go_ret
                                      exact ⟨by first | rfl | (simp; done) | (simp only [← hji2, ← hji33, ← hji57] <;> (first | rfl | simp)) | (simp [*]; done), by repeat (first | exact Drawn0.refl _ | apply Drawn0.step)⟩
                                    · rw [if_neg c63] at H
                                      exact absurd H (by simp)
                                  · rw [if_neg c62] at H
                                    exact absurd H (by simp)
                                · rw [if_neg c61] at H
                                  exact absurd H (by simp)
                              · rw [if_neg c60] at H
                                have c60b0 : (((rd_T34 l0 (ji57)).f0) == 3) = false := beq_eq_false_iff_ne.mpr c60
                                have c60b1 : (((rd_T34 l0 (ji57)).f0) != 3) = true := bne_iff_ne.mpr c60
                                by_cases c66 : ((rd_T34 l0 (ji57)).f0) = 2
                                · rw [if_pos c66] at H
                                  have c66b0 : (((rd_T34 l0 (ji57)).f0) == 2) = true := beq_iff_eq.mpr c66
                                  have c66b1 : (((rd_T34 l0 (ji57)).f0) != 2) = false := bne_eq_false_iff_eq.mpr c66
                                  clear c66
                                  by_cases c67 : 1 + t188.size ≤ 9223372036854775807
                                  · rw [if_pos c67] at H
                                    have c67b0 := eq_true c67
                                    have c67b1 : decide (1 + t188.size ≤ 9223372036854775807) = true := decide_eq_true c67
                                    try have c67b2 : (9223372036854775807 < 1 + t188.size) = False := eq_false (Nat.not_lt.2 c67)
                                    by_cases c68 : ((⟨#[40]⟩ : ByteArray) ++ t188).size + 1 ≤ 9223372036854775807
                                    · rw [if_pos c68] at H
                                      have c68b0 := eq_true c68
                                      have c68b1 : decide (((⟨#[40]⟩ : ByteArray) ++ t188).size + 1 ≤ 9223372036854775807) = true := decide_eq_true c68
                                      try have c68b2 : (9223372036854775807 < ((⟨#[40]⟩ : ByteArray) ++ t188).size + 1) = False := eq_false (Nat.not_lt.2 c68)
                                      have c68b3 : (9223372036854775807 < 1 + t188.size + 1) = False := eq_false (by have h_ := c68; simp only [ByteArray.size_append, show (⟨#[40]⟩ : ByteArray).size = 1 from rfl] at h_; omega)
                                      by_cases c69 : t183.size + (((⟨#[40]⟩ : ByteArray) ++ t188) ++ (⟨#[41]⟩ : ByteArray)).size ≤ 9223372036854775807
                                      · rw [if_pos c69] at H
                                        have c69b0 := eq_true c69
                                        have c69b1 : decide (t183.size + (((⟨#[40]⟩ : ByteArray) ++ t188) ++ (⟨#[41]⟩ : ByteArray)).size ≤ 9223372036854775807) = true := decide_eq_true c69
                                        try have c69b2 : (9223372036854775807 < t183.size + (((⟨#[40]⟩ : ByteArray) ++ t188) ++ (⟨#[41]⟩ : ByteArray)).size) = False := eq_false (Nat.not_lt.2 c69)
                                        have c69b3 : (9223372036854775807 < t183.size + (1 + t188.size + 1)) = False := eq_false (by have h_ := c69; simp only [ByteArray.size_append, show (⟨#[40]⟩ : ByteArray).size = 1 from rfl, show (⟨#[41]⟩ : ByteArray).size = 1 from rfl] at h_; omega)
                                        obtain rfl := Option.some.inj H
                                        have p175 : 0 ≤ ((ji2) : Int) := of_decide_eq_true (by first | (with_reducible assumption) | assumption)
                                        have q175 : (ji2) < (l0.length : Int) := of_decide_eq_true (by first | (with_reducible assumption) | assumption)
                                        obtain ⟨ad175, e175, hx175_0, hx175_1⟩ := at_T34 HR0.out (ji2) p175 q175
                                        cases e175
                                        replace p175 := eq_true p175
                                        replace q175 := eq_true q175
                                        go_enter Try.func53, Try.ntmps53
                                        go_wp2_with (first | (go_at_call 65; (with_reducible refine (spec_l9Starts.calls k _ _ l0 ji57 t178 _ ?side1 ?side2 A10.out).mono ?_); (case side1 => repeat (first | exact HR0.out | (with_reducible refine Kd.C_alloc ?_ _) | (with_reducible refine Kd.C_drewN ?_ _) | (with_reducible refine Kd.C_drew ?_))); (case side2 => exact HC0.out); rintro e w' ⟨rfl, ⟨nd, rfl⟩⟩; (try first | exact ⟨rfl, _, World.drewN_drewN _ _ _⟩ | exact ⟨rfl, _, Eq.trans (World.drewN_drewN _ _ _) (congrArg (World.drewN _) (Nat.add_assoc _ _ _))⟩); have q70 : (t178 : Int) ≤ ((l0.length : Int) : Int) := of_decide_eq_true (by first | (with_reducible assumption) | assumption); obtain ⟨i070, hi070, _, hsz70, _⟩ := info_parts info34; have hroom70 : l0.length ≤ c0 := HC0.out; have hC70 : Kd.C k34 _ (some ad175) l0.length l0 := HR0.out; have hcut70 := cut_to (P := Try.prog) 25 34 .i64 Try.underlying25 hi070 (some ad175) l0.length c0 t178 (of_decide_eq_true (by first | (with_reducible assumption) | assumption)) q70 hroom70; have hr70 := Kd.C_take (m := (t178 : Int).toNat) hC70 (by omega); have hy70 : y179.length = (t178 : Int).toNat := (by rw [Ny179.out, List.length_take]; omega); rw [← Ny179.out] at hr70; rw [← hy70] at hcut70; have HR182 := Aside0.mk hr70; have HC182 := Aside0.mk (show y179.length ≤ c0 from by omega); clear hr70 hC70 hroom70 hi070 hsz70; have KY70 := Aside0.mk hy70; clear hy70; replace q70 := eq_true q70) | (go_at_call 53; (with_reducible refine (ih k (by omega) _ _ y179 t183 _ ?side1 ?side2 A13.out).mono ?_); (case side1 => repeat (first | exact HR182.out | (with_reducible refine Kd.C_alloc ?_ _) | (with_reducible refine Kd.C_drewN ?_ _) | (with_reducible refine Kd.C_drew ?_))); (case side2 => exact HC182.out); rintro e w' ⟨rfl, ⟨nd, rfl⟩⟩; (try first | exact ⟨rfl, _, World.drewN_drewN _ _ _⟩ | exact ⟨rfl, _, Eq.trans (World.drewN_drewN _ _ _) (congrArg (World.drewN _) (Nat.add_assoc _ _ _))⟩); have q71 : ((ji2) : Int) ≤ ((l0.length : Int) : Int) := of_decide_eq_true (by first | (with_reducible assumption) | assumption); obtain ⟨i071, hi071, _, hsz71, _⟩ := info_parts info34; have hroom71 : l0.length ≤ c0 := HC0.out; have hC71 : Kd.C k34 _ (some ad175) l0.length l0 := HR0.out; have ql71 : (t178 : Int) ≤ ((ji2) : Int) := of_decide_eq_true (by first | (with_reducible assumption) | assumption); have q071 : (0 : Int) ≤ (t178 : Int) := of_decide_eq_true (by first | (with_reducible assumption) | assumption); have hcut71 := cut_mid (P := Try.prog) 25 34 .i64 .i64 Try.underlying25 hi071 2 hsz71 (some ad175) l0.length c0 t178 (ji2) q071 ql71 q71 hroom71; have hr71 := Kd.C_mid (lo := (t178 : Int).toNat) (hi := ((ji2) : Int).toNat) (c := c0) hC71 (by omega) (by omega) hroom71; obtain ⟨A71, hA71⟩ : ∃ A1, A1 = (if c0 = (t178 : Int).toNat then (some ad175) else ((some ad175) : Option Addr).map (·.add ((t178 : Int).toNat * 2))) := ⟨_, rfl⟩; obtain ⟨c71, hc71⟩ : ∃ c1, c1 = c0 - (t178 : Int).toNat := ⟨_, rfl⟩; have hy71 : y184.length = ((ji2) : Int).toNat - (t178 : Int).toNat := (by rw [Ny184.out, List.length_drop, List.length_take] <;> omega); rw [show ((l0).take ((ji2) : Int).toNat).drop (t178 : Int).toNat = y184 from Ny184.out.symm] at hr71; replace hr71 : Kd.C k34 _ A71 y184.length y184 := (by rw [hA71]; exact hr71); rw [← hy71, ← hA71, ← hc71] at hcut71; have HR187 := Aside0.mk hr71; have HC187 := Aside0.mk (show y184.length ≤ c71 from by rw [hy71, hc71]; exact Nat.sub_le_sub_right (Nat.le_trans (by omega) hroom71) _); clear hr71 hC71 hroom71 hi071 hsz71 hc71; have KY71 := Aside0.mk hy71; have KA71 := Aside0.mk hA71; clear hy71 hA71; replace q71 := eq_true q71) | (go_at_call 53; (with_reducible refine (ih k (by omega) _ _ y184 t188 _ ?side1 ?side2 A17.out).mono ?_); (case side1 => repeat (first | exact HR187.out | (with_reducible refine Kd.C_alloc ?_ _) | (with_reducible refine Kd.C_drewN ?_ _) | (with_reducible refine Kd.C_drew ?_))); (case side2 => exact HC187.out); rintro e w' ⟨rfl, ⟨nd, rfl⟩⟩; (try first | exact ⟨rfl, _, World.drewN_drewN _ _ _⟩ | exact ⟨rfl, _, Eq.trans (World.drewN_drewN _ _ _) (congrArg (World.drewN _) (Nat.add_assoc _ _ _))⟩); have p189 : 0 ≤ ((ji2) : Int) := of_decide_eq_true (by first | (with_reducible assumption) | assumption); have q189 : (ji2) < (l0.length : Int) := of_decide_eq_true (by first | (with_reducible assumption) | assumption); obtain ⟨ad189, e189, hx189_0, hx189_1⟩ := at_T34 HR0.out (ji2) p189 q189; obtain rfl : ad175 = ad189 := (by injection e189); replace p189 := eq_true p189; replace q189 := eq_true q189; have p191 : 0 ≤ ((ji33) : Int) := of_decide_eq_true (by first | (with_reducible assumption) | assumption); have q191 : (ji33) < (l0.length : Int) := of_decide_eq_true (by first | (with_reducible assumption) | assumption); obtain ⟨ad191, e191, hx191_0, hx191_1⟩ := at_T34 HR0.out (ji33) p191 q191; obtain rfl : ad175 = ad191 := (by injection e191); replace p191 := eq_true p191; replace q191 := eq_true q191; have p194 : 0 ≤ ((ji57) : Int) := of_decide_eq_true (by first | (with_reducible assumption) | assumption); have q194 : (ji57) < (l0.length : Int) := of_decide_eq_true (by first | (with_reducible assumption) | assumption); obtain ⟨ad194, e194, hx194_0, hx194_1⟩ := at_T34 HR0.out (ji57) p194 q194; obtain rfl : ad175 = ad194 := (by injection e194); replace p194 := eq_true p194; replace q194 := eq_true q194; have p195 : 0 ≤ ((ji57) : Int) := of_decide_eq_true (by first | (with_reducible assumption) | assumption); have q195 : (ji57) < (l0.length : Int) := of_decide_eq_true (by first | (with_reducible assumption) | assumption); obtain ⟨ad195, e195, hx195_0, hx195_1⟩ := at_T34 HR0.out (ji57) p195 q195; obtain rfl : ad175 = ad195 := (by injection e195); replace p195 := eq_true p195; replace q195 := eq_true q195))
                                        go_ret
                                        exact ⟨by first | rfl | (simp; done) | (simp only [← hji2, ← hji33, ← hji57] <;> (first | rfl | simp)) | (simp [*]; done), by repeat (first | exact Drawn0.refl _ | apply Drawn0.step)⟩
                                      · rw [if_neg c69] at H
                                        exact absurd H (by simp)
                                    · rw [if_neg c68] at H
                                      exact absurd H (by simp)
                                  · rw [if_neg c67] at H
                                    exact absurd H (by simp)
                                · rw [if_neg c66] at H
                                  have c66b0 : (((rd_T34 l0 (ji57)).f0) == 2) = false := beq_eq_false_iff_ne.mpr c66
                                  have c66b1 : (((rd_T34 l0 (ji57)).f0) != 2) = true := bne_iff_ne.mpr c66
                                  by_cases c72 : t183.size + t188.size ≤ 9223372036854775807
                                  · rw [if_pos c72] at H
                                    have c72b0 := eq_true c72
                                    have c72b1 : decide (t183.size + t188.size ≤ 9223372036854775807) = true := decide_eq_true c72
                                    try have c72b2 : (9223372036854775807 < t183.size + t188.size) = False := eq_false (Nat.not_lt.2 c72)
                                    obtain rfl := Option.some.inj H
                                    have p175 : 0 ≤ ((ji2) : Int) := of_decide_eq_true (by first | (with_reducible assumption) | assumption)
                                    have q175 : (ji2) < (l0.length : Int) := of_decide_eq_true (by first | (with_reducible assumption) | assumption)
                                    obtain ⟨ad175, e175, hx175_0, hx175_1⟩ := at_T34 HR0.out (ji2) p175 q175
                                    cases e175
                                    replace p175 := eq_true p175
                                    replace q175 := eq_true q175
                                    go_enter Try.func53, Try.ntmps53
                                    go_wp2_with (first | (go_at_call 65; (with_reducible refine (spec_l9Starts.calls k _ _ l0 ji57 t178 _ ?side1 ?side2 A10.out).mono ?_); (case side1 => repeat (first | exact HR0.out | (with_reducible refine Kd.C_alloc ?_ _) | (with_reducible refine Kd.C_drewN ?_ _) | (with_reducible refine Kd.C_drew ?_))); (case side2 => exact HC0.out); rintro e w' ⟨rfl, ⟨nd, rfl⟩⟩; (try first | exact ⟨rfl, _, World.drewN_drewN _ _ _⟩ | exact ⟨rfl, _, Eq.trans (World.drewN_drewN _ _ _) (congrArg (World.drewN _) (Nat.add_assoc _ _ _))⟩); have q73 : (t178 : Int) ≤ ((l0.length : Int) : Int) := of_decide_eq_true (by first | (with_reducible assumption) | assumption); obtain ⟨i073, hi073, _, hsz73, _⟩ := info_parts info34; have hroom73 : l0.length ≤ c0 := HC0.out; have hC73 : Kd.C k34 _ (some ad175) l0.length l0 := HR0.out; have hcut73 := cut_to (P := Try.prog) 25 34 .i64 Try.underlying25 hi073 (some ad175) l0.length c0 t178 (of_decide_eq_true (by first | (with_reducible assumption) | assumption)) q73 hroom73; have hr73 := Kd.C_take (m := (t178 : Int).toNat) hC73 (by omega); have hy73 : y179.length = (t178 : Int).toNat := (by rw [Ny179.out, List.length_take]; omega); rw [← Ny179.out] at hr73; rw [← hy73] at hcut73; have HR182 := Aside0.mk hr73; have HC182 := Aside0.mk (show y179.length ≤ c0 from by omega); clear hr73 hC73 hroom73 hi073 hsz73; have KY73 := Aside0.mk hy73; clear hy73; replace q73 := eq_true q73) | (go_at_call 53; (with_reducible refine (ih k (by omega) _ _ y179 t183 _ ?side1 ?side2 A13.out).mono ?_); (case side1 => repeat (first | exact HR182.out | (with_reducible refine Kd.C_alloc ?_ _) | (with_reducible refine Kd.C_drewN ?_ _) | (with_reducible refine Kd.C_drew ?_))); (case side2 => exact HC182.out); rintro e w' ⟨rfl, ⟨nd, rfl⟩⟩; (try first | exact ⟨rfl, _, World.drewN_drewN _ _ _⟩ | exact ⟨rfl, _, Eq.trans (World.drewN_drewN _ _ _) (congrArg (World.drewN _) (Nat.add_assoc _ _ _))⟩); have q74 : ((ji2) : Int) ≤ ((l0.length : Int) : Int) := of_decide_eq_true (by first | (with_reducible assumption) | assumption); obtain ⟨i074, hi074, _, hsz74, _⟩ := info_parts info34; have hroom74 : l0.length ≤ c0 := HC0.out; have hC74 : Kd.C k34 _ (some ad175) l0.length l0 := HR0.out; have ql74 : (t178 : Int) ≤ ((ji2) : Int) := of_decide_eq_true (by first | (with_reducible assumption) | assumption); have q074 : (0 : Int) ≤ (t178 : Int) := of_decide_eq_true (by first | (with_reducible assumption) | assumption); have hcut74 := cut_mid (P := Try.prog) 25 34 .i64 .i64 Try.underlying25 hi074 2 hsz74 (some ad175) l0.length c0 t178 (ji2) q074 ql74 q74 hroom74; have hr74 := Kd.C_mid (lo := (t178 : Int).toNat) (hi := ((ji2) : Int).toNat) (c := c0) hC74 (by omega) (by omega) hroom74; obtain ⟨A74, hA74⟩ : ∃ A1, A1 = (if c0 = (t178 : Int).toNat then (some ad175) else ((some ad175) : Option Addr).map (·.add ((t178 : Int).toNat * 2))) := ⟨_, rfl⟩; obtain ⟨c74, hc74⟩ : ∃ c1, c1 = c0 - (t178 : Int).toNat := ⟨_, rfl⟩; have hy74 : y184.length = ((ji2) : Int).toNat - (t178 : Int).toNat := (by rw [Ny184.out, List.length_drop, List.length_take] <;> omega); rw [show ((l0).take ((ji2) : Int).toNat).drop (t178 : Int).toNat = y184 from Ny184.out.symm] at hr74; replace hr74 : Kd.C k34 _ A74 y184.length y184 := (by rw [hA74]; exact hr74); rw [← hy74, ← hA74, ← hc74] at hcut74; have HR187 := Aside0.mk hr74; have HC187 := Aside0.mk (show y184.length ≤ c74 from by rw [hy74, hc74]; exact Nat.sub_le_sub_right (Nat.le_trans (by omega) hroom74) _); clear hr74 hC74 hroom74 hi074 hsz74 hc74; have KY74 := Aside0.mk hy74; have KA74 := Aside0.mk hA74; clear hy74 hA74; replace q74 := eq_true q74) | (go_at_call 53; (with_reducible refine (ih k (by omega) _ _ y184 t188 _ ?side1 ?side2 A17.out).mono ?_); (case side1 => repeat (first | exact HR187.out | (with_reducible refine Kd.C_alloc ?_ _) | (with_reducible refine Kd.C_drewN ?_ _) | (with_reducible refine Kd.C_drew ?_))); (case side2 => exact HC187.out); rintro e w' ⟨rfl, ⟨nd, rfl⟩⟩; (try first | exact ⟨rfl, _, World.drewN_drewN _ _ _⟩ | exact ⟨rfl, _, Eq.trans (World.drewN_drewN _ _ _) (congrArg (World.drewN _) (Nat.add_assoc _ _ _))⟩); have p189 : 0 ≤ ((ji2) : Int) := of_decide_eq_true (by first | (with_reducible assumption) | assumption); have q189 : (ji2) < (l0.length : Int) := of_decide_eq_true (by first | (with_reducible assumption) | assumption); obtain ⟨ad189, e189, hx189_0, hx189_1⟩ := at_T34 HR0.out (ji2) p189 q189; obtain rfl : ad175 = ad189 := (by injection e189); replace p189 := eq_true p189; replace q189 := eq_true q189; have p191 : 0 ≤ ((ji33) : Int) := of_decide_eq_true (by first | (with_reducible assumption) | assumption); have q191 : (ji33) < (l0.length : Int) := of_decide_eq_true (by first | (with_reducible assumption) | assumption); obtain ⟨ad191, e191, hx191_0, hx191_1⟩ := at_T34 HR0.out (ji33) p191 q191; obtain rfl : ad175 = ad191 := (by injection e191); replace p191 := eq_true p191; replace q191 := eq_true q191; have p194 : 0 ≤ ((ji57) : Int) := of_decide_eq_true (by first | (with_reducible assumption) | assumption); have q194 : (ji57) < (l0.length : Int) := of_decide_eq_true (by first | (with_reducible assumption) | assumption); obtain ⟨ad194, e194, hx194_0, hx194_1⟩ := at_T34 HR0.out (ji57) p194 q194; obtain rfl : ad175 = ad194 := (by injection e194); replace p194 := eq_true p194; replace q194 := eq_true q194; have p195 : 0 ≤ ((ji57) : Int) := of_decide_eq_true (by first | (with_reducible assumption) | assumption); have q195 : (ji57) < (l0.length : Int) := of_decide_eq_true (by first | (with_reducible assumption) | assumption); obtain ⟨ad195, e195, hx195_0, hx195_1⟩ := at_T34 HR0.out (ji57) p195 q195; obtain rfl : ad175 = ad195 := (by injection e195); replace p195 := eq_true p195; replace q195 := eq_true q195))
                                    go_ret
                                    exact ⟨by first | rfl | (simp; done) | (simp only [← hji2, ← hji33, ← hji57] <;> (first | rfl | simp)) | (simp [*]; done), by repeat (first | exact Drawn0.refl _ | apply Drawn0.step)⟩
                                  · rw [if_neg c72] at H
                                    exact absurd H (by simp)
                            · rw [if_neg c59] at H
                              exact absurd H (by simp)
                          · rw [if_neg c58] at H
                            exact absurd H (by simp)
                      · rw [if_neg c35] at H
                        exact absurd H (by simp)
                    · rw [if_neg c34] at H
                      exact absurd H (by simp)
                · rw [if_neg c16] at H
                  exact absurd H (by simp)
              · rw [if_neg c15] at H
                exact absurd H (by simp)
            · rw [if_neg c12] at H
              exact absurd H (by simp)
          · rw [if_neg c11] at H
            exact absurd H (by simp)
    · rw [if_neg c4] at H
      exact absurd H (by simp)
  · rw [if_neg c3] at H
    exact absurd H (by simp)

/-! ### spec_TermText: function 26 -/
def spec_TermText.f (k : Nat) (a0 : Int) (l1 : List (S34)) : Option (ByteArray) := (spec_TermOk.f k a0 l1).bind fun t196 => (if t196 = true then ((spec_l9Text.f k l1).bind fun t197 => (some t197)) else (some (⟨#[]⟩ : ByteArray)))
set_option maxHeartbeats 8000000 in
set_option maxRecDepth 100000 in
theorem spec_TermText.calls (k : Nat) (a0 : Int) (A1 : Option Addr) (c1 : Nat) (l1 : List (S34)) (r : ByteArray) (w : World) (hr1 : Kd.C k34 w A1 l1.length l1) (hc1 : l1.length ≤ c1) (h : spec_TermText.f k a0 l1 = some r) :
    Calls Try.prog 26 #[.int .i64 a0, .slice A1 l1.length c1] w fun e w' => e = .returned (.string r) ∧ Below w.heap.size w w' := by
  have HR1 := Aside0.mk hr1
  have HC1 := Aside0.mk hc1
  clear hr1 hc1
  have HB := Aside0.mk (Below.refl w.heap.size w)
  have H : ((spec_TermOk.f k a0 l1).bind fun t196 => (if t196 = true then ((spec_l9Text.f k l1).bind fun t197 => (some t197)) else (some (⟨#[]⟩ : ByteArray)))) = some r := h
  clear h
  replace H := Option.bind_eq_some_iff.mp H
  obtain ⟨t196, A30, H⟩ := H
  replace H : (if t196 = true then ((spec_l9Text.f k l1).bind fun t197 => (some t197)) else (some (⟨#[]⟩ : ByteArray))) = some r := H
  have A3 := Aside0.mk A30
  clear A30
  by_cases c4 : t196 = true
  · subst c4
    have H1 : ((spec_l9Text.f k l1).bind fun t197 => (some t197)) = some r := by rw [if_pos rfl] at H; exact H
    clear H
    have H := H1
    clear H1
    replace H := Option.bind_eq_some_iff.mp H
    obtain ⟨t197, A50, H⟩ := H
    replace H : (some t197) = some r := H
    have A5 := Aside0.mk A50
    clear A50
    obtain rfl := Option.some.inj H
    go_enter Try.func26, Try.ntmps26
    go_wp2_with (first | ((with_reducible refine gate_callee (f := 16) rfl ?_); refine goesL_ (some 7) rfl rfl Try.func16 (by kernel_rfl) rfl #[.int .i64 a0, .slice A1 l1.length c1] rfl (by (try simp only [List.map_toArray, List.map_cons, List.map_nil]); first | done | rfl | (simp only [List.length_drop, List.length_take]; rfl)) ?_; (with_reducible refine (spec_TermOk.calls k a0 _ _ l1 true _ ?side1 ?side2 A3.out).mono ?_); (case side1 => repeat (first | exact HR1.out | (with_reducible refine Kd.C_alloc ?_ _) | (with_reducible refine Kd.C_drewN ?_ _) | (with_reducible refine Kd.C_drew ?_))); (case side2 => exact HC1.out); rintro e w6 ⟨rfl, hb⟩; refine ⟨_, rfl, ?_⟩; have n0_ := Aside0.mk (below_step (by repeat (first | (with_reducible first | exact HB.out | apply below_alloc | apply pw_below_drewN | apply below_drew1) | exact HB.out)) hb); clear HB; have HB := n0_; clear n0_; (try clear hb); (try clear hb2); (try clear hk); (try clear hi)) | ((with_reducible refine gate_callee (f := 53) rfl ?_); refine goesL_ (some 10) rfl rfl Try.func53 (by kernel_rfl) rfl #[.slice A1 l1.length c1] rfl (by (try simp only [List.map_toArray, List.map_cons, List.map_nil]); first | done | rfl | (simp only [List.length_drop, List.length_take]; rfl)) ?_; (with_reducible refine (spec_l9Text.calls k _ _ l1 t197 _ ?side1 ?side2 A5.out).mono ?_); (case side1 => repeat (first | exact (Kd.C_below HR1.out HB.out) | (with_reducible refine Kd.C_alloc ?_ _) | (with_reducible refine Kd.C_drewN ?_ _) | (with_reducible refine Kd.C_drew ?_))); (case side2 => exact HC1.out); rintro e w' ⟨rfl, ⟨nd, rfl⟩⟩; refine ⟨_, rfl, ?_⟩))
    go_ret
    exact ⟨by first | rfl | (simp [errW_none, errW_some] <;> rfl) | (simp [*, errW_none, errW_some] <;> rfl), by repeat (first | (with_reducible first | exact HB.out | apply below_alloc | apply pw_below_drewN | apply below_drew1) | exact HB.out)⟩
  · replace c4 := Bool.eq_false_iff.mpr c4
    subst c4
    have H1 : (some (⟨#[]⟩ : ByteArray)) = some r := by rw [if_neg (show ¬ (false = true) by decide)] at H; exact H
    clear H
    have H := H1
    clear H1
    obtain rfl := Option.some.inj H
    go_enter Try.func26, Try.ntmps26
    go_wp2_with (first | ((with_reducible refine gate_callee (f := 16) rfl ?_); refine goesL_ (some 7) rfl rfl Try.func16 (by kernel_rfl) rfl #[.int .i64 a0, .slice A1 l1.length c1] rfl (by (try simp only [List.map_toArray, List.map_cons, List.map_nil]); first | done | rfl | (simp only [List.length_drop, List.length_take]; rfl)) ?_; (with_reducible refine (spec_TermOk.calls k a0 _ _ l1 false _ ?side1 ?side2 A3.out).mono ?_); (case side1 => repeat (first | exact HR1.out | (with_reducible refine Kd.C_alloc ?_ _) | (with_reducible refine Kd.C_drewN ?_ _) | (with_reducible refine Kd.C_drew ?_))); (case side2 => exact HC1.out); rintro e w7 ⟨rfl, hb⟩; refine ⟨_, rfl, ?_⟩; have n0_ := Aside0.mk (below_step (by repeat (first | (with_reducible first | exact HB.out | apply below_alloc | apply pw_below_drewN | apply below_drew1) | exact HB.out)) hb); clear HB; have HB := n0_; clear n0_; (try clear hb); (try clear hb2); (try clear hk); (try clear hi)))
    go_ret
    exact ⟨by first | rfl | (simp [errW_none, errW_some] <;> rfl) | (simp [*, errW_none, errW_some] <;> rfl), by repeat (first | (with_reducible first | exact HB.out | apply below_alloc | apply pw_below_drewN | apply below_drew1) | exact HB.out)⟩

/-! ### impl_lastKind: function 63 -/
def impl_lastKind.f (l0 : List (S34)) : Option (Int) := if 0 ≤ (wrap64 ((l0.length : Int) - 1)) then (if (wrap64 ((l0.length : Int) - 1)) < (l0.length : Int) then (some ((rd_T34 l0 (wrap64 ((l0.length : Int) - 1))).f0)) else (none)) else (none)
set_option maxHeartbeats 8000000 in
set_option maxRecDepth 100000 in
theorem impl_lastKind.calls (A0 : Option Addr) (c0 : Nat) (l0 : List (S34)) (r : Int) (w : World) (hr0 : Kd.C k34 w A0 l0.length l0) (hc0 : l0.length ≤ c0) (h : impl_lastKind.f l0 = some r) :
    Calls Try.prog 63 #[.slice A0 l0.length c0] w fun e w' => e = .returned (.int .i64 r) ∧ Drawn0 w w' := by
  have HR0 := Aside0.mk hr0
  have HC0 := Aside0.mk hc0
  clear hr0 hc0
  have H : (if 0 ≤ (wrap64 ((l0.length : Int) - 1)) then (if (wrap64 ((l0.length : Int) - 1)) < (l0.length : Int) then (some ((rd_T34 l0 (wrap64 ((l0.length : Int) - 1))).f0)) else (none)) else (none)) = some r := h
  clear h
  obtain ⟨ji2, hji2⟩ : ∃ j_ : Int, (wrap64 ((l0.length : Int) - 1)) = j_ := ⟨_, rfl⟩
  replace H : (if 0 ≤ (ji2) then (if (ji2) < (l0.length : Int) then (some ((rd_T34 l0 (ji2)).f0)) else (none)) else (none)) = some r := by first | (rw [hji2] at H; exact H) | (simp only [hji2] at H ⊢; exact H)
  have hji2w : (IntKind.i64.wrap ((l0.length : Int) - 1)) = ji2 := (i64_w _).trans hji2
  by_cases c3 : 0 ≤ (ji2)
  · rw [if_pos c3] at H
    have c3b0 : decide (0 ≤ (ji2)) = true := decide_eq_true c3
    clear c3
    by_cases c4 : (ji2) < (l0.length : Int)
    · rw [if_pos c4] at H
      have c4b0 : decide ((ji2) < (l0.length : Int)) = true := decide_eq_true c4
      clear c4
      obtain rfl := Option.some.inj H
      have p198 : 0 ≤ ((ji2) : Int) := of_decide_eq_true (by first | (with_reducible assumption) | assumption)
      have q198 : (ji2) < (l0.length : Int) := of_decide_eq_true (by first | (with_reducible assumption) | assumption)
      obtain ⟨ad198, e198, hx198_0, hx198_1⟩ := at_T34 HR0.out (ji2) p198 q198
      cases e198
      replace p198 := eq_true p198
      replace q198 := eq_true q198
      go_enter Try.func63, Try.ntmps63
      go_wp2
      go_ret
      exact ⟨by first | rfl | (simp; done) | (simp only [← hji2] <;> (first | rfl | simp)) | (simp [*]; done), by repeat (first | exact Drawn0.refl _ | apply Drawn0.step)⟩
    · rw [if_neg c4] at H
      exact absurd H (by simp)
  · rw [if_neg c3] at H
    exact absurd H (by simp)

end Go.Proofs.Ytpnloocdeljmhaa.PFnTermText
