/- Walks of the functions that the law FnReadTerm reaches, written by a program of this session. No condition but those that each states. -/
import Derived.Test.YtpnloocdeljmhaaOFnReadTermx0
namespace Go.Proofs.Ytpnloocdeljmhaa.PFnReadTerm
open Go.RowKit Go.Proofs.YtpnloocdeljmhaaW.PrintWords Go.Proofs.YtpnloocdeljmhaaW.PrintLast Go.Proofs.YtpnloocdeljmhaaW.PrintMore
attribute [local go_sem] max2_int min2_int max_two min_two max_three min_three max_four min_four   -- for this text's walks alone
set_option linter.unusedVariables false
set_option linter.unusedSimpArgs false

/-! ### spec_l9Starts: function 65 -/
def spec_l9Starts.l0 : Nat → List (S34) → Int → Int → Option (Int)
 | 0, _, _, _ => none
 | k + 1, x0, x5, x6 => if x5 > 0 then (if 0 ≤ x6 then (if x6 < (x0.length : Int) then (if ((rd_T34 x0 x6).f0) = 0 then (spec_l9Starts.l0 k x0 (wrap64 (x5 - 1)) (wrap64 (x6 - 1))) else (if ((rd_T34 x0 x6).f0) = 1 then (spec_l9Starts.l0 k x0 (wrap64 (x5 - 1)) (wrap64 (x6 - 1))) else (spec_l9Starts.l0 k x0 (wrap64 (x5 + 1)) (wrap64 (x6 - 1))))) else (none)) else (none)) else (some (wrap64 (x6 + 1)))
def spec_l9Starts.f (k : Nat) (l0 : List (S34)) (a1 : Int) : Option (Int) := spec_l9Starts.l0 k l0 1 a1
set_option maxHeartbeats 8000000 in
set_option maxRecDepth 100000 in
theorem spec_l9Starts.calls (k : Nat) (A0 : Option Addr) (c0 : Nat) (l0 : List (S34)) (a1 : Int) (r : Int) (w : World) (hr0 : Kd.C k34 w A0 l0.length l0) (hc0 : l0.length ≤ c0) (h : spec_l9Starts.f k l0 a1 = some r) :
  Calls Try.prog 65 #[.slice A0 l0.length c0, .int .i64 a1] w fun e w' => e = .returned (.int .i64 r) ∧ Drawn0 w w' := by
 have HR0 := Aside0.mk hr0
 have HC0 := Aside0.mk hc0
 clear hr0 hc0
 have H : (spec_l9Starts.l0 k l0 1 a1) = some r := h
 clear h
 have H' := Aside0.mk H
 clear H
 go_enter Try.func65, Try.ntmps65
 go_wp2
 go_loopg [5, 6] k (fun kq v5 v6 w' => ∃ (x5_1 : Int) (x6_1 : Int), v5 = .int .i64 x5_1 ∧ v6 = .int .i64 x6_1 ∧ Aside0 (spec_l9Starts.l0 kq l0 x5_1 x6_1 = some r) ∧ Aside0 (kq ≤ k) ∧ Drawn0 w w')
 case atStart => exact ⟨(1), (a1), (by first | rfl | (simp; done) | (simp [*]; done)), (by first | rfl | (simp; done) | (simp [*]; done)), H', ⟨Nat.le_refl _⟩, by repeat (first | exact Drawn0.refl _ | apply Drawn0.step)⟩
 case round =>
  clear H'
  try clear p2
  obtain ⟨x5_1, x6_1, rfl, rfl, HA, HK1, ⟨m1, rfl⟩⟩ := hrel
  cases gk with
  | zero => exact absurd HA.out (by simp [spec_l9Starts.l0])
  | succ k1 =>
   have H := HA.out
   clear HA
   simp only [spec_l9Starts.l0] at H
   by_cases c3 : x5_1 > 0
   ·rw [if_pos c3] at H
    have c3b0 : decide (0 < x5_1) = true := decide_eq_true c3
    clear c3
    by_cases c4 : 0 ≤ x6_1
    ·rw [if_pos c4] at H
     have c4b0 : decide (0 ≤ x6_1) = true := decide_eq_true c4
     clear c4
     by_cases c5 : x6_1 < (l0.length : Int)
     ·rw [if_pos c5] at H
      have c5b0 : decide (x6_1 < (l0.length : Int)) = true := decide_eq_true c5
      clear c5
      by_cases c6 : ((rd_T34 l0 x6_1).f0) = 0
      ·rw [if_pos c6] at H
       have c6b0 : (((rd_T34 l0 x6_1).f0) == 0) = true := beq_iff_eq.mpr c6
       have c6b1 : (((rd_T34 l0 x6_1).f0) != 0) = false := bne_eq_false_iff_eq.mpr c6
       clear c6
       have H' := Aside0.mk H
       clear H
       have p270 : 0 ≤ (x6_1 : Int) := of_decide_eq_true (by first | (with_reducible assumption) | assumption)
       have q270 : x6_1 < (l0.length : Int) := of_decide_eq_true (by first | (with_reducible assumption) | assumption)
       obtain ⟨ad270, e270, hx270_0, hx270_1⟩ := at_T34 HR0.out x6_1 p270 q270
       cases e270
       replace p270 := eq_true p270
       replace q270 := eq_true q270
       go_wp2
       go_roundg k1
       case measure => have := HK1.out; omega
       case rel => exact ⟨(wrap64 (x5_1 - 1)), (wrap64 (x6_1 - 1)), (by first | rfl | (simp; done) | (simp [*]; done)), (by first | rfl | (simp; done) | (simp [*]; done)), H', ⟨by have := HK1.out; omega⟩, by repeat (first | exact Drawn0.refl _ | apply Drawn0.step)⟩
      ·rw [if_neg c6] at H
       have c6b0 : (((rd_T34 l0 x6_1).f0) == 0) = false := beq_eq_false_iff_ne.mpr c6
       have c6b1 : (((rd_T34 l0 x6_1).f0) != 0) = true := bne_iff_ne.mpr c6
       by_cases c7 : ((rd_T34 l0 x6_1).f0) = 1
       ·rw [if_pos c7] at H
        have c7b0 : (((rd_T34 l0 x6_1).f0) == 1) = true := beq_iff_eq.mpr c7
        have c7b1 : (((rd_T34 l0 x6_1).f0) != 1) = false := bne_eq_false_iff_eq.mpr c7
        clear c7
        have H' := Aside0.mk H
        clear H
        have p270 : 0 ≤ (x6_1 : Int) := of_decide_eq_true (by first | (with_reducible assumption) | assumption)
        have q270 : x6_1 < (l0.length : Int) := of_decide_eq_true (by first | (with_reducible assumption) | assumption)
        obtain ⟨ad270, e270, hx270_0, hx270_1⟩ := at_T34 HR0.out x6_1 p270 q270
        cases e270
        replace p270 := eq_true p270
        replace q270 := eq_true q270
        have p271 : 0 ≤ (x6_1 : Int) := of_decide_eq_true (by first | (with_reducible assumption) | assumption)
        have q271 : x6_1 < (l0.length : Int) := of_decide_eq_true (by first | (with_reducible assumption) | assumption)
        obtain ⟨ad271, e271, hx271_0, hx271_1⟩ := at_T34 HR0.out x6_1 p271 q271
        obtain rfl : ad270 = ad271 := (by injection e271)
        replace p271 := eq_true p271
        replace q271 := eq_true q271
        go_wp2
        go_roundg k1
        case measure => have := HK1.out; omega
        case rel => exact ⟨(wrap64 (x5_1 - 1)), (wrap64 (x6_1 - 1)), (by first | rfl | (simp; done) | (simp [*]; done)), (by first | rfl | (simp; done) | (simp [*]; done)), H', ⟨by have := HK1.out; omega⟩, by repeat (first | exact Drawn0.refl _ | apply Drawn0.step)⟩
       ·rw [if_neg c7] at H
        have c7b0 : (((rd_T34 l0 x6_1).f0) == 1) = false := beq_eq_false_iff_ne.mpr c7
        have c7b1 : (((rd_T34 l0 x6_1).f0) != 1) = true := bne_iff_ne.mpr c7
        have H' := Aside0.mk H
        clear H
        have p270 : 0 ≤ (x6_1 : Int) := of_decide_eq_true (by first | (with_reducible assumption) | assumption)
        have q270 : x6_1 < (l0.length : Int) := of_decide_eq_true (by first | (with_reducible assumption) | assumption)
        obtain ⟨ad270, e270, hx270_0, hx270_1⟩ := at_T34 HR0.out x6_1 p270 q270
        cases e270
        replace p270 := eq_true p270
        replace q270 := eq_true q270
        have p271 : 0 ≤ (x6_1 : Int) := of_decide_eq_true (by first | (with_reducible assumption) | assumption)
        have q271 : x6_1 < (l0.length : Int) := of_decide_eq_true (by first | (with_reducible assumption) | assumption)
        obtain ⟨ad271, e271, hx271_0, hx271_1⟩ := at_T34 HR0.out x6_1 p271 q271
        obtain rfl : ad270 = ad271 := (by injection e271)
        replace p271 := eq_true p271
        replace q271 := eq_true q271
        go_wp2
        go_roundg k1
        case measure => have := HK1.out; omega
        case rel => exact ⟨(wrap64 (x5_1 + 1)), (wrap64 (x6_1 - 1)), (by first | rfl | (simp; done) | (simp [*]; done)), (by first | rfl | (simp; done) | (simp [*]; done)), H', ⟨by have := HK1.out; omega⟩, by repeat (first | exact Drawn0.refl _ | apply Drawn0.step)⟩
     ·rw [if_neg c5] at H
      exact absurd H (by simp)
    ·rw [if_neg c4] at H
     exact absurd H (by simp)
   ·rw [if_neg c3] at H
    have c3b0 : decide (0 < x5_1) = false := decide_eq_false c3
    clear c3
    obtain rfl := Option.some.inj H
    go_wp2
    go_ret
    exact ⟨by first | rfl | (simp; done) | (simp [*]; done), by repeat (first | exact Drawn0.refl _ | apply Drawn0.step)⟩

/-! ### spec_l9Text: function 53 -/
def spec_l9Text.f : Nat → List (S34) → Option (ByteArray)
 | 0, _ => none
 | k + 1, l0 => if 0 ≤ (wrap64 ((l0.length : Int) - 1)) then (if (wrap64 ((l0.length : Int) - 1)) < (l0.length : Int) then (if ((rd_T34 l0 (wrap64 ((l0.length : Int) - 1))).f0) = 0 then (if 0 ≤ ((rd_T34 l0 (wrap64 ((l0.length : Int) - 1))).f1) then (if ((rd_T34 l0 (wrap64 ((l0.length : Int) - 1))).f1) ≤ (wrap64 (((rd_T34 l0 (wrap64 ((l0.length : Int) - 1))).f1) + 1)) then (if (wrap64 (((rd_T34 l0 (wrap64 ((l0.length : Int) - 1))).f1) + 1)) ≤ 3 then (some ((⟨#[97, 98, 99]⟩ : ByteArray).extract (((rd_T34 l0 (wrap64 ((l0.length : Int) - 1))).f1) : Int).toNat ((wrap64 (((rd_T34 l0 (wrap64 ((l0.length : Int) - 1))).f1) + 1)) : Int).toNat)) else (none)) else (none)) else (none)) else (if ((rd_T34 l0 (wrap64 ((l0.length : Int) - 1))).f0) = 1 then (some (⟨#[46]⟩ : ByteArray)) else ((spec_l9Starts.f k l0 (wrap64 ((wrap64 ((l0.length : Int) - 1)) - 1))).bind fun t275 => (if 0 ≤ t275 then (if t275 ≤ (l0.length : Int) then ((spec_l9Text.f k (l0.take (t275 : Int).toNat)).bind fun t280 => (if t275 ≤ (wrap64 ((l0.length : Int) - 1)) then (if (wrap64 ((l0.length : Int) - 1)) ≤ (l0.length : Int) then ((spec_l9Text.f k ((l0.take ((wrap64 ((l0.length : Int) - 1)) : Int).toNat).drop (t275 : Int).toNat)).bind fun t285 => (if ((rd_T34 l0 (wrap64 ((l0.length : Int) - 1))).f0) = 3 then (if 0 ≤ (wrap64 ((wrap64 ((l0.length : Int) - 1)) - 1)) then (if (wrap64 ((wrap64 ((l0.length : Int) - 1)) - 1)) < (l0.length : Int) then (if ((rd_T34 l0 (wrap64 ((wrap64 ((l0.length : Int) - 1)) - 1))).f0) = 3 then (if 1 + t285.size ≤ 9223372036854775807 then (if ((⟨#[40]⟩ : ByteArray) ++ t285).size + 1 ≤ 9223372036854775807 then (if t280.size + 1 ≤ 9223372036854775807 then (if (t280 ++ (⟨#[124]⟩ : ByteArray)).size + (((⟨#[40]⟩ : ByteArray) ++ t285) ++ (⟨#[41]⟩ : ByteArray)).size ≤ 9223372036854775807 then (some ((t280 ++ (⟨#[124]⟩ : ByteArray)) ++ (((⟨#[40]⟩ : ByteArray) ++ t285) ++ (⟨#[41]⟩ : ByteArray)))) else (none)) else (none)) else (none)) else (none)) else (if t280.size + 1 ≤ 9223372036854775807 then (if (t280 ++ (⟨#[124]⟩ : ByteArray)).size + t285.size ≤ 9223372036854775807 then (some ((t280 ++ (⟨#[124]⟩ : ByteArray)) ++ t285)) else (none)) else (none))) else (none)) else (none)) else (if 0 ≤ (wrap64 (t275 - 1)) then (if (wrap64 (t275 - 1)) < (l0.length : Int) then (if ((rd_T34 l0 (wrap64 (t275 - 1))).f0) = 3 then (if 1 + t280.size ≤ 9223372036854775807 then (if ((⟨#[40]⟩ : ByteArray) ++ t280).size + 1 ≤ 9223372036854775807 then (if 0 ≤ (wrap64 ((wrap64 ((l0.length : Int) - 1)) - 1)) then (if (wrap64 ((wrap64 ((l0.length : Int) - 1)) - 1)) < (l0.length : Int) then (if ((rd_T34 l0 (wrap64 ((wrap64 ((l0.length : Int) - 1)) - 1))).f0) = 3 then (if 1 + t285.size ≤ 9223372036854775807 then (if ((⟨#[40]⟩ : ByteArray) ++ t285).size + 1 ≤ 9223372036854775807 then (if (((⟨#[40]⟩ : ByteArray) ++ t280) ++ (⟨#[41]⟩ : ByteArray)).size + (((⟨#[40]⟩ : ByteArray) ++ t285) ++ (⟨#[41]⟩ : ByteArray)).size ≤ 9223372036854775807 then (some ((((⟨#[40]⟩ : ByteArray) ++ t280) ++ (⟨#[41]⟩ : ByteArray)) ++ (((⟨#[40]⟩ : ByteArray) ++ t285) ++ (⟨#[41]⟩ : ByteArray)))) else (none)) else (none)) else (none)) else (if ((rd_T34 l0 (wrap64 ((wrap64 ((l0.length : Int) - 1)) - 1))).f0) = 2 then (if 1 + t285.size ≤ 9223372036854775807 then (if ((⟨#[40]⟩ : ByteArray) ++ t285).size + 1 ≤ 9223372036854775807 then (if (((⟨#[40]⟩ : ByteArray) ++ t280) ++ (⟨#[41]⟩ : ByteArray)).size + (((⟨#[40]⟩ : ByteArray) ++ t285) ++ (⟨#[41]⟩ : ByteArray)).size ≤ 9223372036854775807 then (some ((((⟨#[40]⟩ : ByteArray) ++ t280) ++ (⟨#[41]⟩ : ByteArray)) ++ (((⟨#[40]⟩ : ByteArray) ++ t285) ++ (⟨#[41]⟩ : ByteArray)))) else (none)) else (none)) else (none)) else (if (((⟨#[40]⟩ : ByteArray) ++ t280) ++ (⟨#[41]⟩ : ByteArray)).size + t285.size ≤ 9223372036854775807 then (some ((((⟨#[40]⟩ : ByteArray) ++ t280) ++ (⟨#[41]⟩ : ByteArray)) ++ t285)) else (none)))) else (none)) else (none)) else (none)) else (none)) else (if 0 ≤ (wrap64 ((wrap64 ((l0.length : Int) - 1)) - 1)) then (if (wrap64 ((wrap64 ((l0.length : Int) - 1)) - 1)) < (l0.length : Int) then (if ((rd_T34 l0 (wrap64 ((wrap64 ((l0.length : Int) - 1)) - 1))).f0) = 3 then (if 1 + t285.size ≤ 9223372036854775807 then (if ((⟨#[40]⟩ : ByteArray) ++ t285).size + 1 ≤ 9223372036854775807 then (if t280.size + (((⟨#[40]⟩ : ByteArray) ++ t285) ++ (⟨#[41]⟩ : ByteArray)).size ≤ 9223372036854775807 then (some (t280 ++ (((⟨#[40]⟩ : ByteArray) ++ t285) ++ (⟨#[41]⟩ : ByteArray)))) else (none)) else (none)) else (none)) else (if ((rd_T34 l0 (wrap64 ((wrap64 ((l0.length : Int) - 1)) - 1))).f0) = 2 then (if 1 + t285.size ≤ 9223372036854775807 then (if ((⟨#[40]⟩ : ByteArray) ++ t285).size + 1 ≤ 9223372036854775807 then (if t280.size + (((⟨#[40]⟩ : ByteArray) ++ t285) ++ (⟨#[41]⟩ : ByteArray)).size ≤ 9223372036854775807 then (some (t280 ++ (((⟨#[40]⟩ : ByteArray) ++ t285) ++ (⟨#[41]⟩ : ByteArray)))) else (none)) else (none)) else (none)) else (if t280.size + t285.size ≤ 9223372036854775807 then (some (t280 ++ t285)) else (none)))) else (none)) else (none))) else (none)) else (none)))) else (none)) else (none))) else (none)) else (none))))) else (none)) else (none)
set_option maxHeartbeats 8000000 in
set_option maxRecDepth 100000 in
theorem spec_l9Text.calls (k : Nat) : ∀ (A0 : Option Addr) (c0 : Nat) (l0 : List (S34)) (r : ByteArray) (w : World) (hr0 : Kd.C k34 w A0 l0.length l0) (hc0 : l0.length ≤ c0) (h : spec_l9Text.f k l0 = some r),
  Calls Try.prog 53 #[.slice A0 l0.length c0] w fun e w' => e = .returned (.string r) ∧ Drawn0 w w' := by
 induction k using Nat.strongRecOn with
 | _ k ih =>
 intro A0 c0 l0 r w hr0 hc0 h
 cases k with
 | zero => exact absurd h (by simp [spec_l9Text.f])
 | succ k =>
 simp only [spec_l9Text.f] at h
 have HR0 := Aside0.mk hr0
 have HC0 := Aside0.mk hc0
 clear hr0 hc0
 have H : (if 0 ≤ (wrap64 ((l0.length : Int) - 1)) then (if (wrap64 ((l0.length : Int) - 1)) < (l0.length : Int) then (if ((rd_T34 l0 (wrap64 ((l0.length : Int) - 1))).f0) = 0 then (if 0 ≤ ((rd_T34 l0 (wrap64 ((l0.length : Int) - 1))).f1) then (if ((rd_T34 l0 (wrap64 ((l0.length : Int) - 1))).f1) ≤ (wrap64 (((rd_T34 l0 (wrap64 ((l0.length : Int) - 1))).f1) + 1)) then (if (wrap64 (((rd_T34 l0 (wrap64 ((l0.length : Int) - 1))).f1) + 1)) ≤ 3 then (some ((⟨#[97, 98, 99]⟩ : ByteArray).extract (((rd_T34 l0 (wrap64 ((l0.length : Int) - 1))).f1) : Int).toNat ((wrap64 (((rd_T34 l0 (wrap64 ((l0.length : Int) - 1))).f1) + 1)) : Int).toNat)) else (none)) else (none)) else (none)) else (if ((rd_T34 l0 (wrap64 ((l0.length : Int) - 1))).f0) = 1 then (some (⟨#[46]⟩ : ByteArray)) else ((spec_l9Starts.f k l0 (wrap64 ((wrap64 ((l0.length : Int) - 1)) - 1))).bind fun t275 => (if 0 ≤ t275 then (if t275 ≤ (l0.length : Int) then ((spec_l9Text.f k (l0.take (t275 : Int).toNat)).bind fun t280 => (if t275 ≤ (wrap64 ((l0.length : Int) - 1)) then (if (wrap64 ((l0.length : Int) - 1)) ≤ (l0.length : Int) then ((spec_l9Text.f k ((l0.take ((wrap64 ((l0.length : Int) - 1)) : Int).toNat).drop (t275 : Int).toNat)).bind fun t285 => (if ((rd_T34 l0 (wrap64 ((l0.length : Int) - 1))).f0) = 3 then (if 0 ≤ (wrap64 ((wrap64 ((l0.length : Int) - 1)) - 1)) then (if (wrap64 ((wrap64 ((l0.length : Int) - 1)) - 1)) < (l0.length : Int) then (if ((rd_T34 l0 (wrap64 ((wrap64 ((l0.length : Int) - 1)) - 1))).f0) = 3 then (if 1 + t285.size ≤ 9223372036854775807 then (if ((⟨#[40]⟩ : ByteArray) ++ t285).size + 1 ≤ 9223372036854775807 then (if t280.size + 1 ≤ 9223372036854775807 then (if (t280 ++ (⟨#[124]⟩ : ByteArray)).size + (((⟨#[40]⟩ : ByteArray) ++ t285) ++ (⟨#[41]⟩ : ByteArray)).size ≤ 9223372036854775807 then (some ((t280 ++ (⟨#[124]⟩ : ByteArray)) ++ (((⟨#[40]⟩ : ByteArray) ++ t285) ++ (⟨#[41]⟩ : ByteArray)))) else (none)) else (none)) else (none)) else (none)) else (if t280.size + 1 ≤ 9223372036854775807 then (if (t280 ++ (⟨#[124]⟩ : ByteArray)).size + t285.size ≤ 9223372036854775807 then (some ((t280 ++ (⟨#[124]⟩ : ByteArray)) ++ t285)) else (none)) else (none))) else (none)) else (none)) else (if 0 ≤ (wrap64 (t275 - 1)) then (if (wrap64 (t275 - 1)) < (l0.length : Int) then (if ((rd_T34 l0 (wrap64 (t275 - 1))).f0) = 3 then (if 1 + t280.size ≤ 9223372036854775807 then (if ((⟨#[40]⟩ : ByteArray) ++ t280).size + 1 ≤ 9223372036854775807 then (if 0 ≤ (wrap64 ((wrap64 ((l0.length : Int) - 1)) - 1)) then (if (wrap64 ((wrap64 ((l0.length : Int) - 1)) - 1)) < (l0.length : Int) then (if ((rd_T34 l0 (wrap64 ((wrap64 ((l0.length : Int) - 1)) - 1))).f0) = 3 then (if 1 + t285.size ≤ 9223372036854775807 then (if ((⟨#[40]⟩ : ByteArray) ++ t285).size + 1 ≤ 9223372036854775807 then (if (((⟨#[40]⟩ : ByteArray) ++ t280) ++ (⟨#[41]⟩ : ByteArray)).size + (((⟨#[40]⟩ : ByteArray) ++ t285) ++ (⟨#[41]⟩ : ByteArray)).size ≤ 9223372036854775807 then (some ((((⟨#[40]⟩ : ByteArray) ++ t280) ++ (⟨#[41]⟩ : ByteArray)) ++ (((⟨#[40]⟩ : ByteArray) ++ t285) ++ (⟨#[41]⟩ : ByteArray)))) else (none)) else (none)) else (none)) else (if ((rd_T34 l0 (wrap64 ((wrap64 ((l0.length : Int) - 1)) - 1))).f0) = 2 then (if 1 + t285.size ≤ 9223372036854775807 then (if ((⟨#[40]⟩ : ByteArray) ++ t285).size + 1 ≤ 9223372036854775807 then (if (((⟨#[40]⟩ : ByteArray) ++ t280) ++ (⟨#[41]⟩ : ByteArray)).size + (((⟨#[40]⟩ : ByteArray) ++ t285) ++ (⟨#[41]⟩ : ByteArray)).size ≤ 9223372036854775807 then (some ((((⟨#[40]⟩ : ByteArray) ++ t280) ++ (⟨#[41]⟩ : ByteArray)) ++ (((⟨#[40]⟩ : ByteArray) ++ t285) ++ (⟨#[41]⟩ : ByteArray)))) else (none)) else (none)) else (none)) else (if (((⟨#[40]⟩ : ByteArray) ++ t280) ++ (⟨#[41]⟩ : ByteArray)).size + t285.size ≤ 9223372036854775807 then (some ((((⟨#[40]⟩ : ByteArray) ++ t280) ++ (⟨#[41]⟩ : ByteArray)) ++ t285)) else (none)))) else (none)) else (none)) else (none)) else (none)) else (if 0 ≤ (wrap64 ((wrap64 ((l0.length : Int) - 1)) - 1)) then (if (wrap64 ((wrap64 ((l0.length : Int) - 1)) - 1)) < (l0.length : Int) then (if ((rd_T34 l0 (wrap64 ((wrap64 ((l0.length : Int) - 1)) - 1))).f0) = 3 then (if 1 + t285.size ≤ 9223372036854775807 then (if ((⟨#[40]⟩ : ByteArray) ++ t285).size + 1 ≤ 9223372036854775807 then (if t280.size + (((⟨#[40]⟩ : ByteArray) ++ t285) ++ (⟨#[41]⟩ : ByteArray)).size ≤ 9223372036854775807 then (some (t280 ++ (((⟨#[40]⟩ : ByteArray) ++ t285) ++ (⟨#[41]⟩ : ByteArray)))) else (none)) else (none)) else (none)) else (if ((rd_T34 l0 (wrap64 ((wrap64 ((l0.length : Int) - 1)) - 1))).f0) = 2 then (if 1 + t285.size ≤ 9223372036854775807 then (if ((⟨#[40]⟩ : ByteArray) ++ t285).size + 1 ≤ 9223372036854775807 then (if t280.size + (((⟨#[40]⟩ : ByteArray) ++ t285) ++ (⟨#[41]⟩ : ByteArray)).size ≤ 9223372036854775807 then (some (t280 ++ (((⟨#[40]⟩ : ByteArray) ++ t285) ++ (⟨#[41]⟩ : ByteArray)))) else (none)) else (none)) else (none)) else (if t280.size + t285.size ≤ 9223372036854775807 then (some (t280 ++ t285)) else (none)))) else (none)) else (none))) else (none)) else (none)))) else (none)) else (none))) else (none)) else (none))))) else (none)) else (none)) = some r := h
 clear h
 obtain ⟨ji2, hji2⟩ : ∃ j_ : Int, (wrap64 ((l0.length : Int) - 1)) = j_ := ⟨_, rfl⟩
 replace H : (if 0 ≤ (ji2) then (if (ji2) < (l0.length : Int) then (if ((rd_T34 l0 (ji2)).f0) = 0 then (if 0 ≤ ((rd_T34 l0 (ji2)).f1) then (if ((rd_T34 l0 (ji2)).f1) ≤ (wrap64 (((rd_T34 l0 (ji2)).f1) + 1)) then (if (wrap64 (((rd_T34 l0 (ji2)).f1) + 1)) ≤ 3 then (some ((⟨#[97, 98, 99]⟩ : ByteArray).extract (((rd_T34 l0 (ji2)).f1) : Int).toNat ((wrap64 (((rd_T34 l0 (ji2)).f1) + 1)) : Int).toNat)) else (none)) else (none)) else (none)) else (if ((rd_T34 l0 (ji2)).f0) = 1 then (some (⟨#[46]⟩ : ByteArray)) else ((spec_l9Starts.f k l0 (wrap64 ((ji2) - 1))).bind fun t275 => (if 0 ≤ t275 then (if t275 ≤ (l0.length : Int) then ((spec_l9Text.f k (l0.take (t275 : Int).toNat)).bind fun t280 => (if t275 ≤ (ji2) then (if (ji2) ≤ (l0.length : Int) then ((spec_l9Text.f k ((l0.take ((ji2) : Int).toNat).drop (t275 : Int).toNat)).bind fun t285 => (if ((rd_T34 l0 (ji2)).f0) = 3 then (if 0 ≤ (wrap64 ((ji2) - 1)) then (if (wrap64 ((ji2) - 1)) < (l0.length : Int) then (if ((rd_T34 l0 (wrap64 ((ji2) - 1))).f0) = 3 then (if 1 + t285.size ≤ 9223372036854775807 then (if ((⟨#[40]⟩ : ByteArray) ++ t285).size + 1 ≤ 9223372036854775807 then (if t280.size + 1 ≤ 9223372036854775807 then (if (t280 ++ (⟨#[124]⟩ : ByteArray)).size + (((⟨#[40]⟩ : ByteArray) ++ t285) ++ (⟨#[41]⟩ : ByteArray)).size ≤ 9223372036854775807 then (some ((t280 ++ (⟨#[124]⟩ : ByteArray)) ++ (((⟨#[40]⟩ : ByteArray) ++ t285) ++ (⟨#[41]⟩ : ByteArray)))) else (none)) else (none)) else (none)) else (none)) else (if t280.size + 1 ≤ 9223372036854775807 then (if (t280 ++ (⟨#[124]⟩ : ByteArray)).size + t285.size ≤ 9223372036854775807 then (some ((t280 ++ (⟨#[124]⟩ : ByteArray)) ++ t285)) else (none)) else (none))) else (none)) else (none)) else (if 0 ≤ (wrap64 (t275 - 1)) then (if (wrap64 (t275 - 1)) < (l0.length : Int) then (if ((rd_T34 l0 (wrap64 (t275 - 1))).f0) = 3 then (if 1 + t280.size ≤ 9223372036854775807 then (if ((⟨#[40]⟩ : ByteArray) ++ t280).size + 1 ≤ 9223372036854775807 then (if 0 ≤ (wrap64 ((ji2) - 1)) then (if (wrap64 ((ji2) - 1)) < (l0.length : Int) then (if ((rd_T34 l0 (wrap64 ((ji2) - 1))).f0) = 3 then (if 1 + t285.size ≤ 9223372036854775807 then (if ((⟨#[40]⟩ : ByteArray) ++ t285).size + 1 ≤ 9223372036854775807 then (if (((⟨#[40]⟩ : ByteArray) ++ t280) ++ (⟨#[41]⟩ : ByteArray)).size + (((⟨#[40]⟩ : ByteArray) ++ t285) ++ (⟨#[41]⟩ : ByteArray)).size ≤ 9223372036854775807 then (some ((((⟨#[40]⟩ : ByteArray) ++ t280) ++ (⟨#[41]⟩ : ByteArray)) ++ (((⟨#[40]⟩ : ByteArray) ++ t285) ++ (⟨#[41]⟩ : ByteArray)))) else (none)) else (none)) else (none)) else (if ((rd_T34 l0 (wrap64 ((ji2) - 1))).f0) = 2 then (if 1 + t285.size ≤ 9223372036854775807 then (if ((⟨#[40]⟩ : ByteArray) ++ t285).size + 1 ≤ 9223372036854775807 then (if (((⟨#[40]⟩ : ByteArray) ++ t280) ++ (⟨#[41]⟩ : ByteArray)).size + (((⟨#[40]⟩ : ByteArray) ++ t285) ++ (⟨#[41]⟩ : ByteArray)).size ≤ 9223372036854775807 then (some ((((⟨#[40]⟩ : ByteArray) ++ t280) ++ (⟨#[41]⟩ : ByteArray)) ++ (((⟨#[40]⟩ : ByteArray) ++ t285) ++ (⟨#[41]⟩ : ByteArray)))) else (none)) else (none)) else (none)) else (if (((⟨#[40]⟩ : ByteArray) ++ t280) ++ (⟨#[41]⟩ : ByteArray)).size + t285.size ≤ 9223372036854775807 then (some ((((⟨#[40]⟩ : ByteArray) ++ t280) ++ (⟨#[41]⟩ : ByteArray)) ++ t285)) else (none)))) else (none)) else (none)) else (none)) else (none)) else (if 0 ≤ (wrap64 ((ji2) - 1)) then (if (wrap64 ((ji2) - 1)) < (l0.length : Int) then (if ((rd_T34 l0 (wrap64 ((ji2) - 1))).f0) = 3 then (if 1 + t285.size ≤ 9223372036854775807 then (if ((⟨#[40]⟩ : ByteArray) ++ t285).size + 1 ≤ 9223372036854775807 then (if t280.size + (((⟨#[40]⟩ : ByteArray) ++ t285) ++ (⟨#[41]⟩ : ByteArray)).size ≤ 9223372036854775807 then (some (t280 ++ (((⟨#[40]⟩ : ByteArray) ++ t285) ++ (⟨#[41]⟩ : ByteArray)))) else (none)) else (none)) else (none)) else (if ((rd_T34 l0 (wrap64 ((ji2) - 1))).f0) = 2 then (if 1 + t285.size ≤ 9223372036854775807 then (if ((⟨#[40]⟩ : ByteArray) ++ t285).size + 1 ≤ 9223372036854775807 then (if t280.size + (((⟨#[40]⟩ : ByteArray) ++ t285) ++ (⟨#[41]⟩ : ByteArray)).size ≤ 9223372036854775807 then (some (t280 ++ (((⟨#[40]⟩ : ByteArray) ++ t285) ++ (⟨#[41]⟩ : ByteArray)))) else (none)) else (none)) else (none)) else (if t280.size + t285.size ≤ 9223372036854775807 then (some (t280 ++ t285)) else (none)))) else (none)) else (none))) else (none)) else (none)))) else (none)) else (none))) else (none)) else (none))))) else (none)) else (none)) = some r := by first | (rw [hji2] at H; exact H) | (simp only [hji2] at H ⊢; exact H)
 have hji2w : (IntKind.i64.wrap ((l0.length : Int) - 1)) = ji2 := (i64_w _).trans hji2
 by_cases c3 : 0 ≤ (ji2)
 ·rw [if_pos c3] at H
  have c3b0 : decide (0 ≤ (ji2)) = true := decide_eq_true c3
  clear c3
  by_cases c4 : (ji2) < (l0.length : Int)
  ·rw [if_pos c4] at H
   have c4b0 : decide ((ji2) < (l0.length : Int)) = true := decide_eq_true c4
   clear c4
   by_cases c5 : ((rd_T34 l0 (ji2)).f0) = 0
   ·rw [if_pos c5] at H
    have c5b0 : (((rd_T34 l0 (ji2)).f0) == 0) = true := beq_iff_eq.mpr c5
    have c5b1 : (((rd_T34 l0 (ji2)).f0) != 0) = false := bne_eq_false_iff_eq.mpr c5
    clear c5
    by_cases c6 : 0 ≤ ((rd_T34 l0 (ji2)).f1)
    ·rw [if_pos c6] at H
     have c6b0 := eq_true c6
     have c6b1 : decide (0 ≤ ((rd_T34 l0 (ji2)).f1)) = true := decide_eq_true c6
     clear c6
     by_cases c7 : ((rd_T34 l0 (ji2)).f1) ≤ (wrap64 (((rd_T34 l0 (ji2)).f1) + 1))
     ·rw [if_pos c7] at H
      have c7b0 := eq_true c7
      have c7b1 : decide (((rd_T34 l0 (ji2)).f1) ≤ (wrap64 (((rd_T34 l0 (ji2)).f1) + 1))) = true := decide_eq_true c7
      by_cases c8 : (wrap64 (((rd_T34 l0 (ji2)).f1) + 1)) ≤ 3
      ·rw [if_pos c8] at H
       have c8b0 := eq_true c8
       have c8b1 : decide ((wrap64 (((rd_T34 l0 (ji2)).f1) + 1)) ≤ 3) = true := decide_eq_true c8
       obtain rfl := Option.some.inj H
       have p272 : 0 ≤ ((ji2) : Int) := of_decide_eq_true (by first | (with_reducible assumption) | assumption)
       have q272 : (ji2) < (l0.length : Int) := of_decide_eq_true (by first | (with_reducible assumption) | assumption)
       obtain ⟨ad272, e272, hx272_0, hx272_1⟩ := at_T34 HR0.out (ji2) p272 q272
       cases e272
       replace p272 := eq_true p272
       replace q272 := eq_true q272
       have p273 : 0 ≤ ((ji2) : Int) := of_decide_eq_true (by first | (with_reducible assumption) | assumption)
       have q273 : (ji2) < (l0.length : Int) := of_decide_eq_true (by first | (with_reducible assumption) | assumption)
       obtain ⟨ad273, e273, hx273_0, hx273_1⟩ := at_T34 HR0.out (ji2) p273 q273
       obtain rfl : ad272 = ad273 := (by injection e273)
       replace p273 := eq_true p273
       replace q273 := eq_true q273
       have p274 : 0 ≤ ((ji2) : Int) := of_decide_eq_true (by first | (with_reducible assumption) | assumption)
       have q274 : (ji2) < (l0.length : Int) := of_decide_eq_true (by first | (with_reducible assumption) | assumption)
       obtain ⟨ad274, e274, hx274_0, hx274_1⟩ := at_T34 HR0.out (ji2) p274 q274
       obtain rfl : ad272 = ad274 := (by injection e274)
       replace p274 := eq_true p274
       replace q274 := eq_true q274
       go_enter Try.func53, Try.ntmps53
       go_wp2
       repeat (go_quiet (fail); try go_wp2)
       go_ret
       exact ⟨by first | rfl | (simp; done) | (simp only [← hji2] <;> (first | rfl | simp)) | (simp [*]; done), by repeat (first | exact Drawn0.refl _ | apply Drawn0.step)⟩
      ·rw [if_neg c8] at H
       exact absurd H (by simp)
     ·rw [if_neg c7] at H
      exact absurd H (by simp)
    ·rw [if_neg c6] at H
     exact absurd H (by simp)
   ·rw [if_neg c5] at H
    have c5b0 : (((rd_T34 l0 (ji2)).f0) == 0) = false := beq_eq_false_iff_ne.mpr c5
    have c5b1 : (((rd_T34 l0 (ji2)).f0) != 0) = true := bne_iff_ne.mpr c5
    by_cases c9 : ((rd_T34 l0 (ji2)).f0) = 1
    ·rw [if_pos c9] at H
     have c9b0 : (((rd_T34 l0 (ji2)).f0) == 1) = true := beq_iff_eq.mpr c9
     have c9b1 : (((rd_T34 l0 (ji2)).f0) != 1) = false := bne_eq_false_iff_eq.mpr c9
     clear c9
     obtain rfl := Option.some.inj H
     have p272 : 0 ≤ ((ji2) : Int) := of_decide_eq_true (by first | (with_reducible assumption) | assumption)
     have q272 : (ji2) < (l0.length : Int) := of_decide_eq_true (by first | (with_reducible assumption) | assumption)
     obtain ⟨ad272, e272, hx272_0, hx272_1⟩ := at_T34 HR0.out (ji2) p272 q272
     cases e272
     replace p272 := eq_true p272
     replace q272 := eq_true q272
     go_enter Try.func53, Try.ntmps53
     go_wp2
     repeat (go_quiet (fail); try go_wp2)
     go_ret
     exact ⟨by first | rfl | (simp; done) | (simp only [← hji2] <;> (first | rfl | simp)) | (simp [*]; done), by repeat (first | exact Drawn0.refl _ | apply Drawn0.step)⟩
    ·rw [if_neg c9] at H
     have c9b0 : (((rd_T34 l0 (ji2)).f0) == 1) = false := beq_eq_false_iff_ne.mpr c9
     have c9b1 : (((rd_T34 l0 (ji2)).f0) != 1) = true := bne_iff_ne.mpr c9
     replace H := Option.bind_eq_some_iff.mp H
     obtain ⟨t275, A100, H⟩ := H
     replace H : (if 0 ≤ t275 then (if t275 ≤ (l0.length : Int) then ((spec_l9Text.f k (l0.take (t275 : Int).toNat)).bind fun t280 => (if t275 ≤ (ji2) then (if (ji2) ≤ (l0.length : Int) then ((spec_l9Text.f k ((l0.take ((ji2) : Int).toNat).drop (t275 : Int).toNat)).bind fun t285 => (if ((rd_T34 l0 (ji2)).f0) = 3 then (if 0 ≤ (wrap64 ((ji2) - 1)) then (if (wrap64 ((ji2) - 1)) < (l0.length : Int) then (if ((rd_T34 l0 (wrap64 ((ji2) - 1))).f0) = 3 then (if 1 + t285.size ≤ 9223372036854775807 then (if ((⟨#[40]⟩ : ByteArray) ++ t285).size + 1 ≤ 9223372036854775807 then (if t280.size + 1 ≤ 9223372036854775807 then (if (t280 ++ (⟨#[124]⟩ : ByteArray)).size + (((⟨#[40]⟩ : ByteArray) ++ t285) ++ (⟨#[41]⟩ : ByteArray)).size ≤ 9223372036854775807 then (some ((t280 ++ (⟨#[124]⟩ : ByteArray)) ++ (((⟨#[40]⟩ : ByteArray) ++ t285) ++ (⟨#[41]⟩ : ByteArray)))) else (none)) else (none)) else (none)) else (none)) else (if t280.size + 1 ≤ 9223372036854775807 then (if (t280 ++ (⟨#[124]⟩ : ByteArray)).size + t285.size ≤ 9223372036854775807 then (some ((t280 ++ (⟨#[124]⟩ : ByteArray)) ++ t285)) else (none)) else (none))) else (none)) else (none)) else (if 0 ≤ (wrap64 (t275 - 1)) then (if (wrap64 (t275 - 1)) < (l0.length : Int) then (if ((rd_T34 l0 (wrap64 (t275 - 1))).f0) = 3 then (if 1 + t280.size ≤ 9223372036854775807 then (if ((⟨#[40]⟩ : ByteArray) ++ t280).size + 1 ≤ 9223372036854775807 then (if 0 ≤ (wrap64 ((ji2) - 1)) then (if (wrap64 ((ji2) - 1)) < (l0.length : Int) then (if ((rd_T34 l0 (wrap64 ((ji2) - 1))).f0) = 3 then (if 1 + t285.size ≤ 9223372036854775807 then (if ((⟨#[40]⟩ : ByteArray) ++ t285).size + 1 ≤ 9223372036854775807 then (if (((⟨#[40]⟩ : ByteArray) ++ t280) ++ (⟨#[41]⟩ : ByteArray)).size + (((⟨#[40]⟩ : ByteArray) ++ t285) ++ (⟨#[41]⟩ : ByteArray)).size ≤ 9223372036854775807 then (some ((((⟨#[40]⟩ : ByteArray) ++ t280) ++ (⟨#[41]⟩ : ByteArray)) ++ (((⟨#[40]⟩ : ByteArray) ++ t285) ++ (⟨#[41]⟩ : ByteArray)))) else (none)) else (none)) else (none)) else (if ((rd_T34 l0 (wrap64 ((ji2) - 1))).f0) = 2 then (if 1 + t285.size ≤ 9223372036854775807 then (if ((⟨#[40]⟩ : ByteArray) ++ t285).size + 1 ≤ 9223372036854775807 then (if (((⟨#[40]⟩ : ByteArray) ++ t280) ++ (⟨#[41]⟩ : ByteArray)).size + (((⟨#[40]⟩ : ByteArray) ++ t285) ++ (⟨#[41]⟩ : ByteArray)).size ≤ 9223372036854775807 then (some ((((⟨#[40]⟩ : ByteArray) ++ t280) ++ (⟨#[41]⟩ : ByteArray)) ++ (((⟨#[40]⟩ : ByteArray) ++ t285) ++ (⟨#[41]⟩ : ByteArray)))) else (none)) else (none)) else (none)) else (if (((⟨#[40]⟩ : ByteArray) ++ t280) ++ (⟨#[41]⟩ : ByteArray)).size + t285.size ≤ 9223372036854775807 then (some ((((⟨#[40]⟩ : ByteArray) ++ t280) ++ (⟨#[41]⟩ : ByteArray)) ++ t285)) else (none)))) else (none)) else (none)) else (none)) else (none)) else (if 0 ≤ (wrap64 ((ji2) - 1)) then (if (wrap64 ((ji2) - 1)) < (l0.length : Int) then (if ((rd_T34 l0 (wrap64 ((ji2) - 1))).f0) = 3 then (if 1 + t285.size ≤ 9223372036854775807 then (if ((⟨#[40]⟩ : ByteArray) ++ t285).size + 1 ≤ 9223372036854775807 then (if t280.size + (((⟨#[40]⟩ : ByteArray) ++ t285) ++ (⟨#[41]⟩ : ByteArray)).size ≤ 9223372036854775807 then (some (t280 ++ (((⟨#[40]⟩ : ByteArray) ++ t285) ++ (⟨#[41]⟩ : ByteArray)))) else (none)) else (none)) else (none)) else (if ((rd_T34 l0 (wrap64 ((ji2) - 1))).f0) = 2 then (if 1 + t285.size ≤ 9223372036854775807 then (if ((⟨#[40]⟩ : ByteArray) ++ t285).size + 1 ≤ 9223372036854775807 then (if t280.size + (((⟨#[40]⟩ : ByteArray) ++ t285) ++ (⟨#[41]⟩ : ByteArray)).size ≤ 9223372036854775807 then (some (t280 ++ (((⟨#[40]⟩ : ByteArray) ++ t285) ++ (⟨#[41]⟩ : ByteArray)))) else (none)) else (none)) else (none)) else (if t280.size + t285.size ≤ 9223372036854775807 then (some (t280 ++ t285)) else (none)))) else (none)) else (none))) else (none)) else (none)))) else (none)) else (none))) else (none)) else (none)) = some r := H
     have A10 := Aside0.mk A100
     clear A100
     by_cases c11 : 0 ≤ t275
     ·rw [if_pos c11] at H
      have c11b0 := eq_true c11
      have c11b1 : decide (0 ≤ t275) = true := decide_eq_true c11
      clear c11
      by_cases c12 : t275 ≤ (l0.length : Int)
      ·rw [if_pos c12] at H
       have c12b0 := eq_true c12
       have c12b1 : decide (t275 ≤ (l0.length : Int)) = true := decide_eq_true c12
       clear c12
       obtain ⟨y276, hy276⟩ : ∃ y_ : List (S34), y_ = (l0.take (t275 : Int).toNat) := ⟨_, rfl⟩
       replace H : ((spec_l9Text.f k y276).bind fun t280 => (if t275 ≤ (ji2) then (if (ji2) ≤ (l0.length : Int) then ((spec_l9Text.f k ((l0.take ((ji2) : Int).toNat).drop (t275 : Int).toNat)).bind fun t285 => (if ((rd_T34 l0 (ji2)).f0) = 3 then (if 0 ≤ (wrap64 ((ji2) - 1)) then (if (wrap64 ((ji2) - 1)) < (l0.length : Int) then (if ((rd_T34 l0 (wrap64 ((ji2) - 1))).f0) = 3 then (if 1 + t285.size ≤ 9223372036854775807 then (if ((⟨#[40]⟩ : ByteArray) ++ t285).size + 1 ≤ 9223372036854775807 then (if t280.size + 1 ≤ 9223372036854775807 then (if (t280 ++ (⟨#[124]⟩ : ByteArray)).size + (((⟨#[40]⟩ : ByteArray) ++ t285) ++ (⟨#[41]⟩ : ByteArray)).size ≤ 9223372036854775807 then (some ((t280 ++ (⟨#[124]⟩ : ByteArray)) ++ (((⟨#[40]⟩ : ByteArray) ++ t285) ++ (⟨#[41]⟩ : ByteArray)))) else (none)) else (none)) else (none)) else (none)) else (if t280.size + 1 ≤ 9223372036854775807 then (if (t280 ++ (⟨#[124]⟩ : ByteArray)).size + t285.size ≤ 9223372036854775807 then (some ((t280 ++ (⟨#[124]⟩ : ByteArray)) ++ t285)) else (none)) else (none))) else (none)) else (none)) else (if 0 ≤ (wrap64 (t275 - 1)) then (if (wrap64 (t275 - 1)) < (l0.length : Int) then (if ((rd_T34 l0 (wrap64 (t275 - 1))).f0) = 3 then (if 1 + t280.size ≤ 9223372036854775807 then (if ((⟨#[40]⟩ : ByteArray) ++ t280).size + 1 ≤ 9223372036854775807 then (if 0 ≤ (wrap64 ((ji2) - 1)) then (if (wrap64 ((ji2) - 1)) < (l0.length : Int) then (if ((rd_T34 l0 (wrap64 ((ji2) - 1))).f0) = 3 then (if 1 + t285.size ≤ 9223372036854775807 then (if ((⟨#[40]⟩ : ByteArray) ++ t285).size + 1 ≤ 9223372036854775807 then (if (((⟨#[40]⟩ : ByteArray) ++ t280) ++ (⟨#[41]⟩ : ByteArray)).size + (((⟨#[40]⟩ : ByteArray) ++ t285) ++ (⟨#[41]⟩ : ByteArray)).size ≤ 9223372036854775807 then (some ((((⟨#[40]⟩ : ByteArray) ++ t280) ++ (⟨#[41]⟩ : ByteArray)) ++ (((⟨#[40]⟩ : ByteArray) ++ t285) ++ (⟨#[41]⟩ : ByteArray)))) else (none)) else (none)) else (none)) else (if ((rd_T34 l0 (wrap64 ((ji2) - 1))).f0) = 2 then (if 1 + t285.size ≤ 9223372036854775807 then (if ((⟨#[40]⟩ : ByteArray) ++ t285).size + 1 ≤ 9223372036854775807 then (if (((⟨#[40]⟩ : ByteArray) ++ t280) ++ (⟨#[41]⟩ : ByteArray)).size + (((⟨#[40]⟩ : ByteArray) ++ t285) ++ (⟨#[41]⟩ : ByteArray)).size ≤ 9223372036854775807 then (some ((((⟨#[40]⟩ : ByteArray) ++ t280) ++ (⟨#[41]⟩ : ByteArray)) ++ (((⟨#[40]⟩ : ByteArray) ++ t285) ++ (⟨#[41]⟩ : ByteArray)))) else (none)) else (none)) else (none)) else (if (((⟨#[40]⟩ : ByteArray) ++ t280) ++ (⟨#[41]⟩ : ByteArray)).size + t285.size ≤ 9223372036854775807 then (some ((((⟨#[40]⟩ : ByteArray) ++ t280) ++ (⟨#[41]⟩ : ByteArray)) ++ t285)) else (none)))) else (none)) else (none)) else (none)) else (none)) else (if 0 ≤ (wrap64 ((ji2) - 1)) then (if (wrap64 ((ji2) - 1)) < (l0.length : Int) then (if ((rd_T34 l0 (wrap64 ((ji2) - 1))).f0) = 3 then (if 1 + t285.size ≤ 9223372036854775807 then (if ((⟨#[40]⟩ : ByteArray) ++ t285).size + 1 ≤ 9223372036854775807 then (if t280.size + (((⟨#[40]⟩ : ByteArray) ++ t285) ++ (⟨#[41]⟩ : ByteArray)).size ≤ 9223372036854775807 then (some (t280 ++ (((⟨#[40]⟩ : ByteArray) ++ t285) ++ (⟨#[41]⟩ : ByteArray)))) else (none)) else (none)) else (none)) else (if ((rd_T34 l0 (wrap64 ((ji2) - 1))).f0) = 2 then (if 1 + t285.size ≤ 9223372036854775807 then (if ((⟨#[40]⟩ : ByteArray) ++ t285).size + 1 ≤ 9223372036854775807 then (if t280.size + (((⟨#[40]⟩ : ByteArray) ++ t285) ++ (⟨#[41]⟩ : ByteArray)).size ≤ 9223372036854775807 then (some (t280 ++ (((⟨#[40]⟩ : ByteArray) ++ t285) ++ (⟨#[41]⟩ : ByteArray)))) else (none)) else (none)) else (none)) else (if t280.size + t285.size ≤ 9223372036854775807 then (some (t280 ++ t285)) else (none)))) else (none)) else (none))) else (none)) else (none)))) else (none)) else (none))) = some r := by first | (rw [hy276]; with_reducible exact H) | (have H2_ := (Option.bind_some _ _).symm.trans H; rw [hy276]; with_reducible exact H2_) | (have H2_ := (Option.bind_some _ _).symm.trans H; with_reducible exact H2_) | with_reducible exact H | (rw [hy276]; exact H) | exact H
       have Ny276 := Aside0.mk hy276
       clear hy276
       replace H := Option.bind_eq_some_iff.mp H
       obtain ⟨t280, A130, H⟩ := H
       replace H : (if t275 ≤ (ji2) then (if (ji2) ≤ (l0.length : Int) then ((spec_l9Text.f k ((l0.take ((ji2) : Int).toNat).drop (t275 : Int).toNat)).bind fun t285 => (if ((rd_T34 l0 (ji2)).f0) = 3 then (if 0 ≤ (wrap64 ((ji2) - 1)) then (if (wrap64 ((ji2) - 1)) < (l0.length : Int) then (if ((rd_T34 l0 (wrap64 ((ji2) - 1))).f0) = 3 then (if 1 + t285.size ≤ 9223372036854775807 then (if ((⟨#[40]⟩ : ByteArray) ++ t285).size + 1 ≤ 9223372036854775807 then (if t280.size + 1 ≤ 9223372036854775807 then (if (t280 ++ (⟨#[124]⟩ : ByteArray)).size + (((⟨#[40]⟩ : ByteArray) ++ t285) ++ (⟨#[41]⟩ : ByteArray)).size ≤ 9223372036854775807 then (some ((t280 ++ (⟨#[124]⟩ : ByteArray)) ++ (((⟨#[40]⟩ : ByteArray) ++ t285) ++ (⟨#[41]⟩ : ByteArray)))) else (none)) else (none)) else (none)) else (none)) else (if t280.size + 1 ≤ 9223372036854775807 then (if (t280 ++ (⟨#[124]⟩ : ByteArray)).size + t285.size ≤ 9223372036854775807 then (some ((t280 ++ (⟨#[124]⟩ : ByteArray)) ++ t285)) else (none)) else (none))) else (none)) else (none)) else (if 0 ≤ (wrap64 (t275 - 1)) then (if (wrap64 (t275 - 1)) < (l0.length : Int) then (if ((rd_T34 l0 (wrap64 (t275 - 1))).f0) = 3 then (if 1 + t280.size ≤ 9223372036854775807 then (if ((⟨#[40]⟩ : ByteArray) ++ t280).size + 1 ≤ 9223372036854775807 then (if 0 ≤ (wrap64 ((ji2) - 1)) then (if (wrap64 ((ji2) - 1)) < (l0.length : Int) then (if ((rd_T34 l0 (wrap64 ((ji2) - 1))).f0) = 3 then (if 1 + t285.size ≤ 9223372036854775807 then (if ((⟨#[40]⟩ : ByteArray) ++ t285).size + 1 ≤ 9223372036854775807 then (if (((⟨#[40]⟩ : ByteArray) ++ t280) ++ (⟨#[41]⟩ : ByteArray)).size + (((⟨#[40]⟩ : ByteArray) ++ t285) ++ (⟨#[41]⟩ : ByteArray)).size ≤ 9223372036854775807 then (some ((((⟨#[40]⟩ : ByteArray) ++ t280) ++ (⟨#[41]⟩ : ByteArray)) ++ (((⟨#[40]⟩ : ByteArray) ++ t285) ++ (⟨#[41]⟩ : ByteArray)))) else (none)) else (none)) else (none)) else (if ((rd_T34 l0 (wrap64 ((ji2) - 1))).f0) = 2 then (if 1 + t285.size ≤ 9223372036854775807 then (if ((⟨#[40]⟩ : ByteArray) ++ t285).size + 1 ≤ 9223372036854775807 then (if (((⟨#[40]⟩ : ByteArray) ++ t280) ++ (⟨#[41]⟩ : ByteArray)).size + (((⟨#[40]⟩ : ByteArray) ++ t285) ++ (⟨#[41]⟩ : ByteArray)).size ≤ 9223372036854775807 then (some ((((⟨#[40]⟩ : ByteArray) ++ t280) ++ (⟨#[41]⟩ : ByteArray)) ++ (((⟨#[40]⟩ : ByteArray) ++ t285) ++ (⟨#[41]⟩ : ByteArray)))) else (none)) else (none)) else (none)) else (if (((⟨#[40]⟩ : ByteArray) ++ t280) ++ (⟨#[41]⟩ : ByteArray)).size + t285.size ≤ 9223372036854775807 then (some ((((⟨#[40]⟩ : ByteArray) ++ t280) ++ (⟨#[41]⟩ : ByteArray)) ++ t285)) else (none)))) else (none)) else (none)) else (none)) else (none)) else (if 0 ≤ (wrap64 ((ji2) - 1)) then (if (wrap64 ((ji2) - 1)) < (l0.length : Int) then (if ((rd_T34 l0 (wrap64 ((ji2) - 1))).f0) = 3 then (if 1 + t285.size ≤ 9223372036854775807 then (if ((⟨#[40]⟩ : ByteArray) ++ t285).size + 1 ≤ 9223372036854775807 then (if t280.size + (((⟨#[40]⟩ : ByteArray) ++ t285) ++ (⟨#[41]⟩ : ByteArray)).size ≤ 9223372036854775807 then (some (t280 ++ (((⟨#[40]⟩ : ByteArray) ++ t285) ++ (⟨#[41]⟩ : ByteArray)))) else (none)) else (none)) else (none)) else (if ((rd_T34 l0 (wrap64 ((ji2) - 1))).f0) = 2 then (if 1 + t285.size ≤ 9223372036854775807 then (if ((⟨#[40]⟩ : ByteArray) ++ t285).size + 1 ≤ 9223372036854775807 then (if t280.size + (((⟨#[40]⟩ : ByteArray) ++ t285) ++ (⟨#[41]⟩ : ByteArray)).size ≤ 9223372036854775807 then (some (t280 ++ (((⟨#[40]⟩ : ByteArray) ++ t285) ++ (⟨#[41]⟩ : ByteArray)))) else (none)) else (none)) else (none)) else (if t280.size + t285.size ≤ 9223372036854775807 then (some (t280 ++ t285)) else (none)))) else (none)) else (none))) else (none)) else (none)))) else (none)) else (none)) = some r := H
       have A13 := Aside0.mk A130
       clear A130
       have c14b0 := eq_true (of_decide_eq_true (by first | (with_reducible assumption) | assumption) : 0 ≤ t275)
       by_cases c15 : t275 ≤ (ji2)
       ·rw [if_pos c15] at H
        have c15b0 := eq_true c15
        have c15b1 : decide (t275 ≤ (ji2)) = true := decide_eq_true c15
        clear c15
        by_cases c16 : (ji2) ≤ (l0.length : Int)
        ·rw [if_pos c16] at H
         have c16b0 := eq_true c16
         have c16b1 : decide ((ji2) ≤ (l0.length : Int)) = true := decide_eq_true c16
         clear c16
         obtain ⟨y281, hy281⟩ : ∃ y_ : List (S34), y_ = ((l0.take ((ji2) : Int).toNat).drop (t275 : Int).toNat) := ⟨_, rfl⟩
         replace H : ((spec_l9Text.f k y281).bind fun t285 => (if ((rd_T34 l0 (ji2)).f0) = 3 then (if 0 ≤ (wrap64 ((ji2) - 1)) then (if (wrap64 ((ji2) - 1)) < (l0.length : Int) then (if ((rd_T34 l0 (wrap64 ((ji2) - 1))).f0) = 3 then (if 1 + t285.size ≤ 9223372036854775807 then (if ((⟨#[40]⟩ : ByteArray) ++ t285).size + 1 ≤ 9223372036854775807 then (if t280.size + 1 ≤ 9223372036854775807 then (if (t280 ++ (⟨#[124]⟩ : ByteArray)).size + (((⟨#[40]⟩ : ByteArray) ++ t285) ++ (⟨#[41]⟩ : ByteArray)).size ≤ 9223372036854775807 then (some ((t280 ++ (⟨#[124]⟩ : ByteArray)) ++ (((⟨#[40]⟩ : ByteArray) ++ t285) ++ (⟨#[41]⟩ : ByteArray)))) else (none)) else (none)) else (none)) else (none)) else (if t280.size + 1 ≤ 9223372036854775807 then (if (t280 ++ (⟨#[124]⟩ : ByteArray)).size + t285.size ≤ 9223372036854775807 then (some ((t280 ++ (⟨#[124]⟩ : ByteArray)) ++ t285)) else (none)) else (none))) else (none)) else (none)) else (if 0 ≤ (wrap64 (t275 - 1)) then (if (wrap64 (t275 - 1)) < (l0.length : Int) then (if ((rd_T34 l0 (wrap64 (t275 - 1))).f0) = 3 then (if 1 + t280.size ≤ 9223372036854775807 then (if ((⟨#[40]⟩ : ByteArray) ++ t280).size + 1 ≤ 9223372036854775807 then (if 0 ≤ (wrap64 ((ji2) - 1)) then (if (wrap64 ((ji2) - 1)) < (l0.length : Int) then (if ((rd_T34 l0 (wrap64 ((ji2) - 1))).f0) = 3 then (if 1 + t285.size ≤ 9223372036854775807 then (if ((⟨#[40]⟩ : ByteArray) ++ t285).size + 1 ≤ 9223372036854775807 then (if (((⟨#[40]⟩ : ByteArray) ++ t280) ++ (⟨#[41]⟩ : ByteArray)).size + (((⟨#[40]⟩ : ByteArray) ++ t285) ++ (⟨#[41]⟩ : ByteArray)).size ≤ 9223372036854775807 then (some ((((⟨#[40]⟩ : ByteArray) ++ t280) ++ (⟨#[41]⟩ : ByteArray)) ++ (((⟨#[40]⟩ : ByteArray) ++ t285) ++ (⟨#[41]⟩ : ByteArray)))) else (none)) else (none)) else (none)) else (if ((rd_T34 l0 (wrap64 ((ji2) - 1))).f0) = 2 then (if 1 + t285.size ≤ 9223372036854775807 then (if ((⟨#[40]⟩ : ByteArray) ++ t285).size + 1 ≤ 9223372036854775807 then (if (((⟨#[40]⟩ : ByteArray) ++ t280) ++ (⟨#[41]⟩ : ByteArray)).size + (((⟨#[40]⟩ : ByteArray) ++ t285) ++ (⟨#[41]⟩ : ByteArray)).size ≤ 9223372036854775807 then (some ((((⟨#[40]⟩ : ByteArray) ++ t280) ++ (⟨#[41]⟩ : ByteArray)) ++ (((⟨#[40]⟩ : ByteArray) ++ t285) ++ (⟨#[41]⟩ : ByteArray)))) else (none)) else (none)) else (none)) else (if (((⟨#[40]⟩ : ByteArray) ++ t280) ++ (⟨#[41]⟩ : ByteArray)).size + t285.size ≤ 9223372036854775807 then (some ((((⟨#[40]⟩ : ByteArray) ++ t280) ++ (⟨#[41]⟩ : ByteArray)) ++ t285)) else (none)))) else (none)) else (none)) else (none)) else (none)) else (if 0 ≤ (wrap64 ((ji2) - 1)) then (if (wrap64 ((ji2) - 1)) < (l0.length : Int) then (if ((rd_T34 l0 (wrap64 ((ji2) - 1))).f0) = 3 then (if 1 + t285.size ≤ 9223372036854775807 then (if ((⟨#[40]⟩ : ByteArray) ++ t285).size + 1 ≤ 9223372036854775807 then (if t280.size + (((⟨#[40]⟩ : ByteArray) ++ t285) ++ (⟨#[41]⟩ : ByteArray)).size ≤ 9223372036854775807 then (some (t280 ++ (((⟨#[40]⟩ : ByteArray) ++ t285) ++ (⟨#[41]⟩ : ByteArray)))) else (none)) else (none)) else (none)) else (if ((rd_T34 l0 (wrap64 ((ji2) - 1))).f0) = 2 then (if 1 + t285.size ≤ 9223372036854775807 then (if ((⟨#[40]⟩ : ByteArray) ++ t285).size + 1 ≤ 9223372036854775807 then (if t280.size + (((⟨#[40]⟩ : ByteArray) ++ t285) ++ (⟨#[41]⟩ : ByteArray)).size ≤ 9223372036854775807 then (some (t280 ++ (((⟨#[40]⟩ : ByteArray) ++ t285) ++ (⟨#[41]⟩ : ByteArray)))) else (none)) else (none)) else (none)) else (if t280.size + t285.size ≤ 9223372036854775807 then (some (t280 ++ t285)) else (none)))) else (none)) else (none))) else (none)) else (none)))) = some r := by first | (rw [hy281]; with_reducible exact H) | (have H2_ := (Option.bind_some _ _).symm.trans H; rw [hy281]; with_reducible exact H2_) | (have H2_ := (Option.bind_some _ _).symm.trans H; with_reducible exact H2_) | with_reducible exact H | (rw [hy281]; exact H) | exact H
         have Ny281 := Aside0.mk hy281
         clear hy281
         replace H := Option.bind_eq_some_iff.mp H
         obtain ⟨t285, A170, H⟩ := H
         replace H : (if ((rd_T34 l0 (ji2)).f0) = 3 then (if 0 ≤ (wrap64 ((ji2) - 1)) then (if (wrap64 ((ji2) - 1)) < (l0.length : Int) then (if ((rd_T34 l0 (wrap64 ((ji2) - 1))).f0) = 3 then (if 1 + t285.size ≤ 9223372036854775807 then (if ((⟨#[40]⟩ : ByteArray) ++ t285).size + 1 ≤ 9223372036854775807 then (if t280.size + 1 ≤ 9223372036854775807 then (if (t280 ++ (⟨#[124]⟩ : ByteArray)).size + (((⟨#[40]⟩ : ByteArray) ++ t285) ++ (⟨#[41]⟩ : ByteArray)).size ≤ 9223372036854775807 then (some ((t280 ++ (⟨#[124]⟩ : ByteArray)) ++ (((⟨#[40]⟩ : ByteArray) ++ t285) ++ (⟨#[41]⟩ : ByteArray)))) else (none)) else (none)) else (none)) else (none)) else (if t280.size + 1 ≤ 9223372036854775807 then (if (t280 ++ (⟨#[124]⟩ : ByteArray)).size + t285.size ≤ 9223372036854775807 then (some ((t280 ++ (⟨#[124]⟩ : ByteArray)) ++ t285)) else (none)) else (none))) else (none)) else (none)) else (if 0 ≤ (wrap64 (t275 - 1)) then (if (wrap64 (t275 - 1)) < (l0.length : Int) then (if ((rd_T34 l0 (wrap64 (t275 - 1))).f0) = 3 then (if 1 + t280.size ≤ 9223372036854775807 then (if ((⟨#[40]⟩ : ByteArray) ++ t280).size + 1 ≤ 9223372036854775807 then (if 0 ≤ (wrap64 ((ji2) - 1)) then (if (wrap64 ((ji2) - 1)) < (l0.length : Int) then (if ((rd_T34 l0 (wrap64 ((ji2) - 1))).f0) = 3 then (if 1 + t285.size ≤ 9223372036854775807 then (if ((⟨#[40]⟩ : ByteArray) ++ t285).size + 1 ≤ 9223372036854775807 then (if (((⟨#[40]⟩ : ByteArray) ++ t280) ++ (⟨#[41]⟩ : ByteArray)).size + (((⟨#[40]⟩ : ByteArray) ++ t285) ++ (⟨#[41]⟩ : ByteArray)).size ≤ 9223372036854775807 then (some ((((⟨#[40]⟩ : ByteArray) ++ t280) ++ (⟨#[41]⟩ : ByteArray)) ++ (((⟨#[40]⟩ : ByteArray) ++ t285) ++ (⟨#[41]⟩ : ByteArray)))) else (none)) else (none)) else (none)) else (if ((rd_T34 l0 (wrap64 ((ji2) - 1))).f0) = 2 then (if 1 + t285.size ≤ 9223372036854775807 then (if ((⟨#[40]⟩ : ByteArray) ++ t285).size + 1 ≤ 9223372036854775807 then (if (((⟨#[40]⟩ : ByteArray) ++ t280) ++ (⟨#[41]⟩ : ByteArray)).size + (((⟨#[40]⟩ : ByteArray) ++ t285) ++ (⟨#[41]⟩ : ByteArray)).size ≤ 9223372036854775807 then (some ((((⟨#[40]⟩ : ByteArray) ++ t280) ++ (⟨#[41]⟩ : ByteArray)) ++ (((⟨#[40]⟩ : ByteArray) ++ t285) ++ (⟨#[41]⟩ : ByteArray)))) else (none)) else (none)) else (none)) else (if (((⟨#[40]⟩ : ByteArray) ++ t280) ++ (⟨#[41]⟩ : ByteArray)).size + t285.size ≤ 9223372036854775807 then (some ((((⟨#[40]⟩ : ByteArray) ++ t280) ++ (⟨#[41]⟩ : ByteArray)) ++ t285)) else (none)))) else (none)) else (none)) else (none)) else (none)) else (if 0 ≤ (wrap64 ((ji2) - 1)) then (if (wrap64 ((ji2) - 1)) < (l0.length : Int) then (if ((rd_T34 l0 (wrap64 ((ji2) - 1))).f0) = 3 then (if 1 + t285.size ≤ 9223372036854775807 then (if ((⟨#[40]⟩ : ByteArray) ++ t285).size + 1 ≤ 9223372036854775807 then (if t280.size + (((⟨#[40]⟩ : ByteArray) ++ t285) ++ (⟨#[41]⟩ : ByteArray)).size ≤ 9223372036854775807 then (some (t280 ++ (((⟨#[40]⟩ : ByteArray) ++ t285) ++ (⟨#[41]⟩ : ByteArray)))) else (none)) else (none)) else (none)) else (if ((rd_T34 l0 (wrap64 ((ji2) - 1))).f0) = 2 then (if 1 + t285.size ≤ 9223372036854775807 then (if ((⟨#[40]⟩ : ByteArray) ++ t285).size + 1 ≤ 9223372036854775807 then (if t280.size + (((⟨#[40]⟩ : ByteArray) ++ t285) ++ (⟨#[41]⟩ : ByteArray)).size ≤ 9223372036854775807 then (some (t280 ++ (((⟨#[40]⟩ : ByteArray) ++ t285) ++ (⟨#[41]⟩ : ByteArray)))) else (none)) else (none)) else (none)) else (if t280.size + t285.size ≤ 9223372036854775807 then (some (t280 ++ t285)) else (none)))) else (none)) else (none))) else (none)) else (none))) = some r := H
         have A17 := Aside0.mk A170
         clear A170
         by_cases c18 : ((rd_T34 l0 (ji2)).f0) = 3
         ·rw [if_pos c18] at H
          have c18b0 : (((rd_T34 l0 (ji2)).f0) == 3) = true := beq_iff_eq.mpr c18
          have c18b1 : (((rd_T34 l0 (ji2)).f0) != 3) = false := bne_eq_false_iff_eq.mpr c18
          clear c18
          obtain ⟨ji19, hji19⟩ : ∃ j_ : Int, (wrap64 ((ji2) - 1)) = j_ := ⟨_, rfl⟩
          replace H : (if 0 ≤ (ji19) then (if (ji19) < (l0.length : Int) then (if ((rd_T34 l0 (ji19)).f0) = 3 then (if 1 + t285.size ≤ 9223372036854775807 then (if ((⟨#[40]⟩ : ByteArray) ++ t285).size + 1 ≤ 9223372036854775807 then (if t280.size + 1 ≤ 9223372036854775807 then (if (t280 ++ (⟨#[124]⟩ : ByteArray)).size + (((⟨#[40]⟩ : ByteArray) ++ t285) ++ (⟨#[41]⟩ : ByteArray)).size ≤ 9223372036854775807 then (some ((t280 ++ (⟨#[124]⟩ : ByteArray)) ++ (((⟨#[40]⟩ : ByteArray) ++ t285) ++ (⟨#[41]⟩ : ByteArray)))) else (none)) else (none)) else (none)) else (none)) else (if t280.size + 1 ≤ 9223372036854775807 then (if (t280 ++ (⟨#[124]⟩ : ByteArray)).size + t285.size ≤ 9223372036854775807 then (some ((t280 ++ (⟨#[124]⟩ : ByteArray)) ++ t285)) else (none)) else (none))) else (none)) else (none)) = some r := by first | (rw [hji19] at H; exact H) | (simp only [hji19] at H ⊢; exact H)
          (try rw [hji19] at A10)
          (try rw [hji19] at A13)
          (try rw [hji19] at A17)
          have hji19w : (IntKind.i64.wrap ((ji2) - 1)) = ji19 := (i64_w _).trans hji19
          by_cases c20 : 0 ≤ (ji19)
          ·rw [if_pos c20] at H
           have c20b0 : decide (0 ≤ (ji19)) = true := decide_eq_true c20
           clear c20
           by_cases c21 : (ji19) < (l0.length : Int)
           ·rw [if_pos c21] at H
            have c21b0 : decide ((ji19) < (l0.length : Int)) = true := decide_eq_true c21
            clear c21
            by_cases c22 : ((rd_T34 l0 (ji19)).f0) = 3
            ·rw [if_pos c22] at H
             have c22b0 : (((rd_T34 l0 (ji19)).f0) == 3) = true := beq_iff_eq.mpr c22
             have c22b1 : (((rd_T34 l0 (ji19)).f0) != 3) = false := bne_eq_false_iff_eq.mpr c22
             clear c22
             by_cases c23 : 1 + t285.size ≤ 9223372036854775807
             ·rw [if_pos c23] at H
              have c23b0 := eq_true c23
              have c23b1 : decide (1 + t285.size ≤ 9223372036854775807) = true := decide_eq_true c23
              try have c23b2 : (9223372036854775807 < 1 + t285.size) = False := eq_false (Nat.not_lt.2 c23)
              by_cases c24 : ((⟨#[40]⟩ : ByteArray) ++ t285).size + 1 ≤ 9223372036854775807
              ·rw [if_pos c24] at H
               have c24b0 := eq_true c24
               have c24b1 : decide (((⟨#[40]⟩ : ByteArray) ++ t285).size + 1 ≤ 9223372036854775807) = true := decide_eq_true c24
               try have c24b2 : (9223372036854775807 < ((⟨#[40]⟩ : ByteArray) ++ t285).size + 1) = False := eq_false (Nat.not_lt.2 c24)
               have c24b3 : (9223372036854775807 < 1 + t285.size + 1) = False := eq_false (by have h_ := c24; simp only [ByteArray.size_append, show (⟨#[40]⟩ : ByteArray).size = 1 from rfl] at h_; omega)
               by_cases c25 : t280.size + 1 ≤ 9223372036854775807
               ·rw [if_pos c25] at H
                have c25b0 := eq_true c25
                have c25b1 : decide (t280.size + 1 ≤ 9223372036854775807) = true := decide_eq_true c25
                try have c25b2 : (9223372036854775807 < t280.size + 1) = False := eq_false (Nat.not_lt.2 c25)
                by_cases c26 : (t280 ++ (⟨#[124]⟩ : ByteArray)).size + (((⟨#[40]⟩ : ByteArray) ++ t285) ++ (⟨#[41]⟩ : ByteArray)).size ≤ 9223372036854775807
                ·rw [if_pos c26] at H
                 have c26b0 := eq_true c26
                 have c26b1 : decide ((t280 ++ (⟨#[124]⟩ : ByteArray)).size + (((⟨#[40]⟩ : ByteArray) ++ t285) ++ (⟨#[41]⟩ : ByteArray)).size ≤ 9223372036854775807) = true := decide_eq_true c26
                 try have c26b2 : (9223372036854775807 < (t280 ++ (⟨#[124]⟩ : ByteArray)).size + (((⟨#[40]⟩ : ByteArray) ++ t285) ++ (⟨#[41]⟩ : ByteArray)).size) = False := eq_false (Nat.not_lt.2 c26)
                 have c26b3 : (9223372036854775807 < t280.size + 1 + (1 + t285.size + 1)) = False := eq_false (by have h_ := c26; simp only [ByteArray.size_append, show (⟨#[124]⟩ : ByteArray).size = 1 from rfl, show (⟨#[40]⟩ : ByteArray).size = 1 from rfl, show (⟨#[41]⟩ : ByteArray).size = 1 from rfl] at h_; omega)
                 obtain rfl := Option.some.inj H
                 have p272 : 0 ≤ ((ji2) : Int) := of_decide_eq_true (by first | (with_reducible assumption) | assumption)
                 have q272 : (ji2) < (l0.length : Int) := of_decide_eq_true (by first | (with_reducible assumption) | assumption)
                 obtain ⟨ad272, e272, hx272_0, hx272_1⟩ := at_T34 HR0.out (ji2) p272 q272
                 cases e272
                 replace p272 := eq_true p272
                 replace q272 := eq_true q272
                 go_enter Try.func53, Try.ntmps53
                 go_wp2_with (first | (go_at_call 65; (with_reducible refine (spec_l9Starts.calls k _ _ l0 ji19 t275 _ ?side1 ?side2 A10.out).mono ?_); (case side1 => repeat (first | exact HR0.out | (with_reducible refine Kd.C_alloc ?_ _) | (with_reducible refine Kd.C_drewN ?_ _) | (with_reducible refine Kd.C_drew ?_))); (case side2 => exact HC0.out); rintro e w' ⟨rfl, ⟨nd, rfl⟩⟩; (try first | exact ⟨rfl, _, World.drewN_drewN _ _ _⟩ | exact ⟨rfl, _, Eq.trans (World.drewN_drewN _ _ _) (congrArg (World.drewN _) (Nat.add_assoc _ _ _))⟩); have q27 : (t275 : Int) ≤ ((l0.length : Int) : Int) := of_decide_eq_true (by first | (with_reducible assumption) | assumption); obtain ⟨i027, hi027, _, hsz27, _⟩ := info_parts info34; have hroom27 : l0.length ≤ c0 := HC0.out; have hC27 : Kd.C k34 _ (some ad272) l0.length l0 := HR0.out; have hcut27 := cut_to (P := Try.prog) 25 34 .i64 Try.underlying25 hi027 (some ad272) l0.length c0 t275 (of_decide_eq_true (by first | (with_reducible assumption) | assumption)) q27 hroom27; have hr27 := Kd.C_take (m := (t275 : Int).toNat) hC27 (by omega); have hy27 : y276.length = (t275 : Int).toNat := (by rw [Ny276.out, List.length_take]; omega); rw [← Ny276.out] at hr27; rw [← hy27] at hcut27; have HR279 := Aside0.mk hr27; have HC279 := Aside0.mk (show y276.length ≤ c0 from by omega); clear hr27 hC27 hroom27 hi027 hsz27; have KY27 := Aside0.mk hy27; clear hy27; replace q27 := eq_true q27) | (go_at_call 53; (with_reducible refine (ih k (by omega) _ _ y276 t280 _ ?side1 ?side2 A13.out).mono ?_); (case side1 => repeat (first | exact HR279.out | (with_reducible refine Kd.C_alloc ?_ _) | (with_reducible refine Kd.C_drewN ?_ _) | (with_reducible refine Kd.C_drew ?_))); (case side2 => exact HC279.out); rintro e w' ⟨rfl, ⟨nd, rfl⟩⟩; (try first | exact ⟨rfl, _, World.drewN_drewN _ _ _⟩ | exact ⟨rfl, _, Eq.trans (World.drewN_drewN _ _ _) (congrArg (World.drewN _) (Nat.add_assoc _ _ _))⟩); have q28 : ((ji2) : Int) ≤ ((l0.length : Int) : Int) := of_decide_eq_true (by first | (with_reducible assumption) | assumption); obtain ⟨i028, hi028, _, hsz28, _⟩ := info_parts info34; have hroom28 : l0.length ≤ c0 := HC0.out; have hC28 : Kd.C k34 _ (some ad272) l0.length l0 := HR0.out; have ql28 : (t275 : Int) ≤ ((ji2) : Int) := of_decide_eq_true (by first | (with_reducible assumption) | assumption); have q028 : (0 : Int) ≤ (t275 : Int) := of_decide_eq_true (by first | (with_reducible assumption) | assumption); have hcut28 := cut_mid (P := Try.prog) 25 34 .i64 .i64 Try.underlying25 hi028 2 hsz28 (some ad272) l0.length c0 t275 (ji2) q028 ql28 q28 hroom28; have hr28 := Kd.C_mid (lo := (t275 : Int).toNat) (hi := ((ji2) : Int).toNat) (c := c0) hC28 (by omega) (by omega) hroom28; obtain ⟨A28, hA28⟩ : ∃ A1, A1 = (if c0 = (t275 : Int).toNat then (some ad272) else ((some ad272) : Option Addr).map (·.add ((t275 : Int).toNat * 2))) := ⟨_, rfl⟩; obtain ⟨c28, hc28⟩ : ∃ c1, c1 = c0 - (t275 : Int).toNat := ⟨_, rfl⟩; have hy28 : y281.length = ((ji2) : Int).toNat - (t275 : Int).toNat := (by rw [Ny281.out, List.length_drop, List.length_take] <;> omega); rw [show ((l0).take ((ji2) : Int).toNat).drop (t275 : Int).toNat = y281 from Ny281.out.symm] at hr28; replace hr28 : Kd.C k34 _ A28 y281.length y281 := (by rw [hA28]; exact hr28); rw [← hy28, ← hA28, ← hc28] at hcut28; have HR284 := Aside0.mk hr28; have HC284 := Aside0.mk (show y281.length ≤ c28 from by rw [hy28, hc28]; exact Nat.sub_le_sub_right (Nat.le_trans (by omega) hroom28) _); clear hr28 hC28 hroom28 hi028 hsz28 hc28; have KY28 := Aside0.mk hy28; have KA28 := Aside0.mk hA28; clear hy28 hA28; replace q28 := eq_true q28) | (go_at_call 53; (with_reducible refine (ih k (by omega) _ _ y281 t285 _ ?side1 ?side2 A17.out).mono ?_); (case side1 => repeat (first | exact HR284.out | (with_reducible refine Kd.C_alloc ?_ _) | (with_reducible refine Kd.C_drewN ?_ _) | (with_reducible refine Kd.C_drew ?_))); (case side2 => exact HC284.out); rintro e w' ⟨rfl, ⟨nd, rfl⟩⟩; (try first | exact ⟨rfl, _, World.drewN_drewN _ _ _⟩ | exact ⟨rfl, _, Eq.trans (World.drewN_drewN _ _ _) (congrArg (World.drewN _) (Nat.add_assoc _ _ _))⟩); have p286 : 0 ≤ ((ji2) : Int) := of_decide_eq_true (by first | (with_reducible assumption) | assumption); have q286 : (ji2) < (l0.length : Int) := of_decide_eq_true (by first | (with_reducible assumption) | assumption); obtain ⟨ad286, e286, hx286_0, hx286_1⟩ := at_T34 HR0.out (ji2) p286 q286; obtain rfl : ad272 = ad286 := (by injection e286); replace p286 := eq_true p286; replace q286 := eq_true q286; have p287 : 0 ≤ ((ji19) : Int) := of_decide_eq_true (by first | (with_reducible assumption) | assumption); have q287 : (ji19) < (l0.length : Int) := of_decide_eq_true (by first | (with_reducible assumption) | assumption); obtain ⟨ad287, e287, hx287_0, hx287_1⟩ := at_T34 HR0.out (ji19) p287 q287; obtain rfl : ad272 = ad287 := (by injection e287); replace p287 := eq_true p287; replace q287 := eq_true q287))
                 go_ret
                 exact ⟨by first | rfl | (simp; done) | (simp only [← hji2, ← hji19] <;> (first | rfl | simp)) | (simp [*]; done), by repeat (first | exact Drawn0.refl _ | apply Drawn0.step)⟩
                ·rw [if_neg c26] at H
                 exact absurd H (by simp)
               ·rw [if_neg c25] at H
                exact absurd H (by simp)
              ·rw [if_neg c24] at H
               exact absurd H (by simp)
             ·rw [if_neg c23] at H
              exact absurd H (by simp)
            ·rw [if_neg c22] at H
             have c22b0 : (((rd_T34 l0 (ji19)).f0) == 3) = false := beq_eq_false_iff_ne.mpr c22
             have c22b1 : (((rd_T34 l0 (ji19)).f0) != 3) = true := bne_iff_ne.mpr c22
             by_cases c29 : t280.size + 1 ≤ 9223372036854775807
             ·rw [if_pos c29] at H
              have c29b0 := eq_true c29
              have c29b1 : decide (t280.size + 1 ≤ 9223372036854775807) = true := decide_eq_true c29
              try have c29b2 : (9223372036854775807 < t280.size + 1) = False := eq_false (Nat.not_lt.2 c29)
              by_cases c30 : (t280 ++ (⟨#[124]⟩ : ByteArray)).size + t285.size ≤ 9223372036854775807
              ·rw [if_pos c30] at H
               have c30b0 := eq_true c30
               have c30b1 : decide ((t280 ++ (⟨#[124]⟩ : ByteArray)).size + t285.size ≤ 9223372036854775807) = true := decide_eq_true c30
               try have c30b2 : (9223372036854775807 < (t280 ++ (⟨#[124]⟩ : ByteArray)).size + t285.size) = False := eq_false (Nat.not_lt.2 c30)
               have c30b3 : (9223372036854775807 < t280.size + 1 + t285.size) = False := eq_false (by have h_ := c30; simp only [ByteArray.size_append, show (⟨#[124]⟩ : ByteArray).size = 1 from rfl] at h_; omega)
               obtain rfl := Option.some.inj H
               have p272 : 0 ≤ ((ji2) : Int) := of_decide_eq_true (by first | (with_reducible assumption) | assumption)
               have q272 : (ji2) < (l0.length : Int) := of_decide_eq_true (by first | (with_reducible assumption) | assumption)
               obtain ⟨ad272, e272, hx272_0, hx272_1⟩ := at_T34 HR0.out (ji2) p272 q272
               cases e272
               replace p272 := eq_true p272
               replace q272 := eq_true q272
               go_enter Try.func53, Try.ntmps53
               go_wp2_with (first | (go_at_call 65; (with_reducible refine (spec_l9Starts.calls k _ _ l0 ji19 t275 _ ?side1 ?side2 A10.out).mono ?_); (case side1 => repeat (first | exact HR0.out | (with_reducible refine Kd.C_alloc ?_ _) | (with_reducible refine Kd.C_drewN ?_ _) | (with_reducible refine Kd.C_drew ?_))); (case side2 => exact HC0.out); rintro e w' ⟨rfl, ⟨nd, rfl⟩⟩; (try first | exact ⟨rfl, _, World.drewN_drewN _ _ _⟩ | exact ⟨rfl, _, Eq.trans (World.drewN_drewN _ _ _) (congrArg (World.drewN _) (Nat.add_assoc _ _ _))⟩); have q31 : (t275 : Int) ≤ ((l0.length : Int) : Int) := of_decide_eq_true (by first | (with_reducible assumption) | assumption); obtain ⟨i031, hi031, _, hsz31, _⟩ := info_parts info34; have hroom31 : l0.length ≤ c0 := HC0.out; have hC31 : Kd.C k34 _ (some ad272) l0.length l0 := HR0.out; have hcut31 := cut_to (P := Try.prog) 25 34 .i64 Try.underlying25 hi031 (some ad272) l0.length c0 t275 (of_decide_eq_true (by first | (with_reducible assumption) | assumption)) q31 hroom31; have hr31 := Kd.C_take (m := (t275 : Int).toNat) hC31 (by omega); have hy31 : y276.length = (t275 : Int).toNat := (by rw [Ny276.out, List.length_take]; omega); rw [← Ny276.out] at hr31; rw [← hy31] at hcut31; have HR279 := Aside0.mk hr31; have HC279 := Aside0.mk (show y276.length ≤ c0 from by omega); clear hr31 hC31 hroom31 hi031 hsz31; have KY31 := Aside0.mk hy31; clear hy31; replace q31 := eq_true q31) | (go_at_call 53; (with_reducible refine (ih k (by omega) _ _ y276 t280 _ ?side1 ?side2 A13.out).mono ?_); (case side1 => repeat (first | exact HR279.out | (with_reducible refine Kd.C_alloc ?_ _) | (with_reducible refine Kd.C_drewN ?_ _) | (with_reducible refine Kd.C_drew ?_))); (case side2 => exact HC279.out); rintro e w' ⟨rfl, ⟨nd, rfl⟩⟩; (try first | exact ⟨rfl, _, World.drewN_drewN _ _ _⟩ | exact ⟨rfl, _, Eq.trans (World.drewN_drewN _ _ _) (congrArg (World.drewN _) (Nat.add_assoc _ _ _))⟩); have q32 : ((ji2) : Int) ≤ ((l0.length : Int) : Int) := of_decide_eq_true (by first | (with_reducible assumption) | assumption); obtain ⟨i032, hi032, _, hsz32, _⟩ := info_parts info34; have hroom32 : l0.length ≤ c0 := HC0.out; have hC32 : Kd.C k34 _ (some ad272) l0.length l0 := HR0.out; have ql32 : (t275 : Int) ≤ ((ji2) : Int) := of_decide_eq_true (by first | (with_reducible assumption) | assumption); have q032 : (0 : Int) ≤ (t275 : Int) := of_decide_eq_true (by first | (with_reducible assumption) | assumption); have hcut32 := cut_mid (P := Try.prog) 25 34 .i64 .i64 Try.underlying25 hi032 2 hsz32 (some ad272) l0.length c0 t275 (ji2) q032 ql32 q32 hroom32; have hr32 := Kd.C_mid (lo := (t275 : Int).toNat) (hi := ((ji2) : Int).toNat) (c := c0) hC32 (by omega) (by omega) hroom32; obtain ⟨A32, hA32⟩ : ∃ A1, A1 = (if c0 = (t275 : Int).toNat then (some ad272) else ((some ad272) : Option Addr).map (·.add ((t275 : Int).toNat * 2))) := ⟨_, rfl⟩; obtain ⟨c32, hc32⟩ : ∃ c1, c1 = c0 - (t275 : Int).toNat := ⟨_, rfl⟩; have hy32 : y281.length = ((ji2) : Int).toNat - (t275 : Int).toNat := (by rw [Ny281.out, List.length_drop, List.length_take] <;> omega); rw [show ((l0).take ((ji2) : Int).toNat).drop (t275 : Int).toNat = y281 from Ny281.out.symm] at hr32; replace hr32 : Kd.C k34 _ A32 y281.length y281 := (by rw [hA32]; exact hr32); rw [← hy32, ← hA32, ← hc32] at hcut32; have HR284 := Aside0.mk hr32; have HC284 := Aside0.mk (show y281.length ≤ c32 from by rw [hy32, hc32]; exact Nat.sub_le_sub_right (Nat.le_trans (by omega) hroom32) _); clear hr32 hC32 hroom32 hi032 hsz32 hc32; have KY32 := Aside0.mk hy32; have KA32 := Aside0.mk hA32; clear hy32 hA32; replace q32 := eq_true q32) | (go_at_call 53; (with_reducible refine (ih k (by omega) _ _ y281 t285 _ ?side1 ?side2 A17.out).mono ?_); (case side1 => repeat (first | exact HR284.out | (with_reducible refine Kd.C_alloc ?_ _) | (with_reducible refine Kd.C_drewN ?_ _) | (with_reducible refine Kd.C_drew ?_))); (case side2 => exact HC284.out); rintro e w' ⟨rfl, ⟨nd, rfl⟩⟩; (try first | exact ⟨rfl, _, World.drewN_drewN _ _ _⟩ | exact ⟨rfl, _, Eq.trans (World.drewN_drewN _ _ _) (congrArg (World.drewN _) (Nat.add_assoc _ _ _))⟩); have p286 : 0 ≤ ((ji2) : Int) := of_decide_eq_true (by first | (with_reducible assumption) | assumption); have q286 : (ji2) < (l0.length : Int) := of_decide_eq_true (by first | (with_reducible assumption) | assumption); obtain ⟨ad286, e286, hx286_0, hx286_1⟩ := at_T34 HR0.out (ji2) p286 q286; obtain rfl : ad272 = ad286 := (by injection e286); replace p286 := eq_true p286; replace q286 := eq_true q286; have p287 : 0 ≤ ((ji19) : Int) := of_decide_eq_true (by first | (with_reducible assumption) | assumption); have q287 : (ji19) < (l0.length : Int) := of_decide_eq_true (by first | (with_reducible assumption) | assumption); obtain ⟨ad287, e287, hx287_0, hx287_1⟩ := at_T34 HR0.out (ji19) p287 q287; obtain rfl : ad272 = ad287 := (by injection e287); replace p287 := eq_true p287; replace q287 := eq_true q287))
               go_ret
               exact ⟨by first | rfl | (simp; done) | (simp only [← hji2, ← hji19] <;> (first | rfl | simp)) | (simp [*]; done), by repeat (first | exact Drawn0.refl _ | apply Drawn0.step)⟩
              ·rw [if_neg c30] at H
               exact absurd H (by simp)
             ·rw [if_neg c29] at H
              exact absurd H (by simp)
           ·rw [if_neg c21] at H
            exact absurd H (by simp)
          ·rw [if_neg c20] at H
           exact absurd H (by simp)
         ·rw [if_neg c18] at H
          have c18b0 : (((rd_T34 l0 (ji2)).f0) == 3) = false := beq_eq_false_iff_ne.mpr c18
          have c18b1 : (((rd_T34 l0 (ji2)).f0) != 3) = true := bne_iff_ne.mpr c18
          obtain ⟨ji33, hji33⟩ : ∃ j_ : Int, (wrap64 (t275 - 1)) = j_ := ⟨_, rfl⟩
          replace H : (if 0 ≤ (ji33) then (if (ji33) < (l0.length : Int) then (if ((rd_T34 l0 (ji33)).f0) = 3 then (if 1 + t280.size ≤ 9223372036854775807 then (if ((⟨#[40]⟩ : ByteArray) ++ t280).size + 1 ≤ 9223372036854775807 then (if 0 ≤ (wrap64 ((ji2) - 1)) then (if (wrap64 ((ji2) - 1)) < (l0.length : Int) then (if ((rd_T34 l0 (wrap64 ((ji2) - 1))).f0) = 3 then (if 1 + t285.size ≤ 9223372036854775807 then (if ((⟨#[40]⟩ : ByteArray) ++ t285).size + 1 ≤ 9223372036854775807 then (if (((⟨#[40]⟩ : ByteArray) ++ t280) ++ (⟨#[41]⟩ : ByteArray)).size + (((⟨#[40]⟩ : ByteArray) ++ t285) ++ (⟨#[41]⟩ : ByteArray)).size ≤ 9223372036854775807 then (some ((((⟨#[40]⟩ : ByteArray) ++ t280) ++ (⟨#[41]⟩ : ByteArray)) ++ (((⟨#[40]⟩ : ByteArray) ++ t285) ++ (⟨#[41]⟩ : ByteArray)))) else (none)) else (none)) else (none)) else (if ((rd_T34 l0 (wrap64 ((ji2) - 1))).f0) = 2 then (if 1 + t285.size ≤ 9223372036854775807 then (if ((⟨#[40]⟩ : ByteArray) ++ t285).size + 1 ≤ 9223372036854775807 then (if (((⟨#[40]⟩ : ByteArray) ++ t280) ++ (⟨#[41]⟩ : ByteArray)).size + (((⟨#[40]⟩ : ByteArray) ++ t285) ++ (⟨#[41]⟩ : ByteArray)).size ≤ 9223372036854775807 then (some ((((⟨#[40]⟩ : ByteArray) ++ t280) ++ (⟨#[41]⟩ : ByteArray)) ++ (((⟨#[40]⟩ : ByteArray) ++ t285) ++ (⟨#[41]⟩ : ByteArray)))) else (none)) else (none)) else (none)) else (if (((⟨#[40]⟩ : ByteArray) ++ t280) ++ (⟨#[41]⟩ : ByteArray)).size + t285.size ≤ 9223372036854775807 then (some ((((⟨#[40]⟩ : ByteArray) ++ t280) ++ (⟨#[41]⟩ : ByteArray)) ++ t285)) else (none)))) else (none)) else (none)) else (none)) else (none)) else (if 0 ≤ (wrap64 ((ji2) - 1)) then (if (wrap64 ((ji2) - 1)) < (l0.length : Int) then (if ((rd_T34 l0 (wrap64 ((ji2) - 1))).f0) = 3 then (if 1 + t285.size ≤ 9223372036854775807 then (if ((⟨#[40]⟩ : ByteArray) ++ t285).size + 1 ≤ 9223372036854775807 then (if t280.size + (((⟨#[40]⟩ : ByteArray) ++ t285) ++ (⟨#[41]⟩ : ByteArray)).size ≤ 9223372036854775807 then (some (t280 ++ (((⟨#[40]⟩ : ByteArray) ++ t285) ++ (⟨#[41]⟩ : ByteArray)))) else (none)) else (none)) else (none)) else (if ((rd_T34 l0 (wrap64 ((ji2) - 1))).f0) = 2 then (if 1 + t285.size ≤ 9223372036854775807 then (if ((⟨#[40]⟩ : ByteArray) ++ t285).size + 1 ≤ 9223372036854775807 then (if t280.size + (((⟨#[40]⟩ : ByteArray) ++ t285) ++ (⟨#[41]⟩ : ByteArray)).size ≤ 9223372036854775807 then (some (t280 ++ (((⟨#[40]⟩ : ByteArray) ++ t285) ++ (⟨#[41]⟩ : ByteArray)))) else (none)) else (none)) else (none)) else (if t280.size + t285.size ≤ 9223372036854775807 then (some (t280 ++ t285)) else (none)))) else (none)) else (none))) else (none)) else (none)) = some r := by first | (rw [hji33] at H; exact H) | (simp only [hji33] at H ⊢; exact H)
          (try rw [hji33] at A10)
          (try rw [hji33] at A13)
          (try rw [hji33] at A17)
          have hji33w : (IntKind.i64.wrap (t275 - 1)) = ji33 := (i64_w _).trans hji33
          by_cases c34 : 0 ≤ (ji33)
          ·rw [if_pos c34] at H
           have c34b0 : decide (0 ≤ (ji33)) = true := decide_eq_true c34
           clear c34
           by_cases c35 : (ji33) < (l0.length : Int)
           ·rw [if_pos c35] at H
            have c35b0 : decide ((ji33) < (l0.length : Int)) = true := decide_eq_true c35
            clear c35
            by_cases c36 : ((rd_T34 l0 (ji33)).f0) = 3
            ·rw [if_pos c36] at H
             have c36b0 : (((rd_T34 l0 (ji33)).f0) == 3) = true := beq_iff_eq.mpr c36
             have c36b1 : (((rd_T34 l0 (ji33)).f0) != 3) = false := bne_eq_false_iff_eq.mpr c36
             clear c36
             by_cases c37 : 1 + t280.size ≤ 9223372036854775807
             ·rw [if_pos c37] at H
              have c37b0 := eq_true c37
              have c37b1 : decide (1 + t280.size ≤ 9223372036854775807) = true := decide_eq_true c37
              try have c37b2 : (9223372036854775807 < 1 + t280.size) = False := eq_false (Nat.not_lt.2 c37)
              by_cases c38 : ((⟨#[40]⟩ : ByteArray) ++ t280).size + 1 ≤ 9223372036854775807
              ·rw [if_pos c38] at H
               have c38b0 := eq_true c38
               have c38b1 : decide (((⟨#[40]⟩ : ByteArray) ++ t280).size + 1 ≤ 9223372036854775807) = true := decide_eq_true c38
               try have c38b2 : (9223372036854775807 < ((⟨#[40]⟩ : ByteArray) ++ t280).size + 1) = False := eq_false (Nat.not_lt.2 c38)
               have c38b3 : (9223372036854775807 < 1 + t280.size + 1) = False := eq_false (by have h_ := c38; simp only [ByteArray.size_append, show (⟨#[40]⟩ : ByteArray).size = 1 from rfl] at h_; omega)
               obtain ⟨ji39, hji39⟩ : ∃ j_ : Int, (wrap64 ((ji2) - 1)) = j_ := ⟨_, rfl⟩
               replace H : (if 0 ≤ (ji39) then (if (ji39) < (l0.length : Int) then (if ((rd_T34 l0 (ji39)).f0) = 3 then (if 1 + t285.size ≤ 9223372036854775807 then (if ((⟨#[40]⟩ : ByteArray) ++ t285).size + 1 ≤ 9223372036854775807 then (if (((⟨#[40]⟩ : ByteArray) ++ t280) ++ (⟨#[41]⟩ : ByteArray)).size + (((⟨#[40]⟩ : ByteArray) ++ t285) ++ (⟨#[41]⟩ : ByteArray)).size ≤ 9223372036854775807 then (some ((((⟨#[40]⟩ : ByteArray) ++ t280) ++ (⟨#[41]⟩ : ByteArray)) ++ (((⟨#[40]⟩ : ByteArray) ++ t285) ++ (⟨#[41]⟩ : ByteArray)))) else (none)) else (none)) else (none)) else (if ((rd_T34 l0 (ji39)).f0) = 2 then (if 1 + t285.size ≤ 9223372036854775807 then (if ((⟨#[40]⟩ : ByteArray) ++ t285).size + 1 ≤ 9223372036854775807 then (if (((⟨#[40]⟩ : ByteArray) ++ t280) ++ (⟨#[41]⟩ : ByteArray)).size + (((⟨#[40]⟩ : ByteArray) ++ t285) ++ (⟨#[41]⟩ : ByteArray)).size ≤ 9223372036854775807 then (some ((((⟨#[40]⟩ : ByteArray) ++ t280) ++ (⟨#[41]⟩ : ByteArray)) ++ (((⟨#[40]⟩ : ByteArray) ++ t285) ++ (⟨#[41]⟩ : ByteArray)))) else (none)) else (none)) else (none)) else (if (((⟨#[40]⟩ : ByteArray) ++ t280) ++ (⟨#[41]⟩ : ByteArray)).size + t285.size ≤ 9223372036854775807 then (some ((((⟨#[40]⟩ : ByteArray) ++ t280) ++ (⟨#[41]⟩ : ByteArray)) ++ t285)) else (none)))) else (none)) else (none)) = some r := by first | (rw [hji39] at H; exact H) | (simp only [hji39] at H ⊢; exact H)
               (try rw [hji39] at A10)
               (try rw [hji39] at A13)
               (try rw [hji39] at A17)
               have hji39w : (IntKind.i64.wrap ((ji2) - 1)) = ji39 := (i64_w _).trans hji39
               by_cases c40 : 0 ≤ (ji39)
               ·rw [if_pos c40] at H
                have c40b0 : decide (0 ≤ (ji39)) = true := decide_eq_true c40
                clear c40
                by_cases c41 : (ji39) < (l0.length : Int)
                ·rw [if_pos c41] at H
                 have c41b0 : decide ((ji39) < (l0.length : Int)) = true := decide_eq_true c41
                 clear c41
                 by_cases c42 : ((rd_T34 l0 (ji39)).f0) = 3
                 ·rw [if_pos c42] at H
                  have c42b0 : (((rd_T34 l0 (ji39)).f0) == 3) = true := beq_iff_eq.mpr c42
                  have c42b1 : (((rd_T34 l0 (ji39)).f0) != 3) = false := bne_eq_false_iff_eq.mpr c42
                  clear c42
                  by_cases c43 : 1 + t285.size ≤ 9223372036854775807
                  ·rw [if_pos c43] at H
                   have c43b0 := eq_true c43
                   have c43b1 : decide (1 + t285.size ≤ 9223372036854775807) = true := decide_eq_true c43
                   try have c43b2 : (9223372036854775807 < 1 + t285.size) = False := eq_false (Nat.not_lt.2 c43)
                   by_cases c44 : ((⟨#[40]⟩ : ByteArray) ++ t285).size + 1 ≤ 9223372036854775807
                   ·rw [if_pos c44] at H
                    have c44b0 := eq_true c44
                    have c44b1 : decide (((⟨#[40]⟩ : ByteArray) ++ t285).size + 1 ≤ 9223372036854775807) = true := decide_eq_true c44
                    try have c44b2 : (9223372036854775807 < ((⟨#[40]⟩ : ByteArray) ++ t285).size + 1) = False := eq_false (Nat.not_lt.2 c44)
                    have c44b3 : (9223372036854775807 < 1 + t285.size + 1) = False := eq_false (by have h_ := c44; simp only [ByteArray.size_append, show (⟨#[40]⟩ : ByteArray).size = 1 from rfl] at h_; omega)
                    by_cases c45 : (((⟨#[40]⟩ : ByteArray) ++ t280) ++ (⟨#[41]⟩ : ByteArray)).size + (((⟨#[40]⟩ : ByteArray) ++ t285) ++ (⟨#[41]⟩ : ByteArray)).size ≤ 9223372036854775807
                    ·rw [if_pos c45] at H
                     have c45b0 := eq_true c45
                     have c45b1 : decide ((((⟨#[40]⟩ : ByteArray) ++ t280) ++ (⟨#[41]⟩ : ByteArray)).size + (((⟨#[40]⟩ : ByteArray) ++ t285) ++ (⟨#[41]⟩ : ByteArray)).size ≤ 9223372036854775807) = true := decide_eq_true c45
                     try have c45b2 : (9223372036854775807 < (((⟨#[40]⟩ : ByteArray) ++ t280) ++ (⟨#[41]⟩ : ByteArray)).size + (((⟨#[40]⟩ : ByteArray) ++ t285) ++ (⟨#[41]⟩ : ByteArray)).size) = False := eq_false (Nat.not_lt.2 c45)
                     have c45b3 : (9223372036854775807 < 1 + t280.size + 1 + (1 + t285.size + 1)) = False := eq_false (by have h_ := c45; simp only [ByteArray.size_append, show (⟨#[40]⟩ : ByteArray).size = 1 from rfl, show (⟨#[41]⟩ : ByteArray).size = 1 from rfl] at h_; omega)
                     obtain rfl := Option.some.inj H
                     have p272 : 0 ≤ ((ji2) : Int) := of_decide_eq_true (by first | (with_reducible assumption) | assumption)
                     have q272 : (ji2) < (l0.length : Int) := of_decide_eq_true (by first | (with_reducible assumption) | assumption)
                     obtain ⟨ad272, e272, hx272_0, hx272_1⟩ := at_T34 HR0.out (ji2) p272 q272
                     cases e272
                     replace p272 := eq_true p272
                     replace q272 := eq_true q272
                     go_enter Try.func53, Try.ntmps53
                     go_wp2_with (first | (go_at_call 65; (with_reducible refine (spec_l9Starts.calls k _ _ l0 ji39 t275 _ ?side1 ?side2 A10.out).mono ?_); (case side1 => repeat (first | exact HR0.out | (with_reducible refine Kd.C_alloc ?_ _) | (with_reducible refine Kd.C_drewN ?_ _) | (with_reducible refine Kd.C_drew ?_))); (case side2 => exact HC0.out); rintro e w' ⟨rfl, ⟨nd, rfl⟩⟩; (try first | exact ⟨rfl, _, World.drewN_drewN _ _ _⟩ | exact ⟨rfl, _, Eq.trans (World.drewN_drewN _ _ _) (congrArg (World.drewN _) (Nat.add_assoc _ _ _))⟩); have q46 : (t275 : Int) ≤ ((l0.length : Int) : Int) := of_decide_eq_true (by first | (with_reducible assumption) | assumption); obtain ⟨i046, hi046, _, hsz46, _⟩ := info_parts info34; have hroom46 : l0.length ≤ c0 := HC0.out; have hC46 : Kd.C k34 _ (some ad272) l0.length l0 := HR0.out; have hcut46 := cut_to (P := Try.prog) 25 34 .i64 Try.underlying25 hi046 (some ad272) l0.length c0 t275 (of_decide_eq_true (by first | (with_reducible assumption) | assumption)) q46 hroom46; have hr46 := Kd.C_take (m := (t275 : Int).toNat) hC46 (by omega); have hy46 : y276.length = (t275 : Int).toNat := (by rw [Ny276.out, List.length_take]; omega); rw [← Ny276.out] at hr46; rw [← hy46] at hcut46; have HR279 := Aside0.mk hr46; have HC279 := Aside0.mk (show y276.length ≤ c0 from by omega); clear hr46 hC46 hroom46 hi046 hsz46; have KY46 := Aside0.mk hy46; clear hy46; replace q46 := eq_true q46) | (go_at_call 53; (with_reducible refine (ih k (by omega) _ _ y276 t280 _ ?side1 ?side2 A13.out).mono ?_); (case side1 => repeat (first | exact HR279.out | (with_reducible refine Kd.C_alloc ?_ _) | (with_reducible refine Kd.C_drewN ?_ _) | (with_reducible refine Kd.C_drew ?_))); (case side2 => exact HC279.out); rintro e w' ⟨rfl, ⟨nd, rfl⟩⟩; (try first | exact ⟨rfl, _, World.drewN_drewN _ _ _⟩ | exact ⟨rfl, _, Eq.trans (World.drewN_drewN _ _ _) (congrArg (World.drewN _) (Nat.add_assoc _ _ _))⟩); have q47 : ((ji2) : Int) ≤ ((l0.length : Int) : Int) := of_decide_eq_true (by first | (with_reducible assumption) | assumption); obtain ⟨i047, hi047, _, hsz47, _⟩ := info_parts info34; have hroom47 : l0.length ≤ c0 := HC0.out; have hC47 : Kd.C k34 _ (some ad272) l0.length l0 := HR0.out; have ql47 : (t275 : Int) ≤ ((ji2) : Int) := of_decide_eq_true (by first | (with_reducible assumption) | assumption); have q047 : (0 : Int) ≤ (t275 : Int) := of_decide_eq_true (by first | (with_reducible assumption) | assumption); have hcut47 := cut_mid (P := Try.prog) 25 34 .i64 .i64 Try.underlying25 hi047 2 hsz47 (some ad272) l0.length c0 t275 (ji2) q047 ql47 q47 hroom47; have hr47 := Kd.C_mid (lo := (t275 : Int).toNat) (hi := ((ji2) : Int).toNat) (c := c0) hC47 (by omega) (by omega) hroom47; obtain ⟨A47, hA47⟩ : ∃ A1, A1 = (if c0 = (t275 : Int).toNat then (some ad272) else ((some ad272) : Option Addr).map (·.add ((t275 : Int).toNat * 2))) := ⟨_, rfl⟩; obtain ⟨c47, hc47⟩ : ∃ c1, c1 = c0 - (t275 : Int).toNat := ⟨_, rfl⟩; have hy47 : y281.length = ((ji2) : Int).toNat - (t275 : Int).toNat := (by rw [Ny281.out, List.length_drop, List.length_take] <;> omega); rw [show ((l0).take ((ji2) : Int).toNat).drop (t275 : Int).toNat = y281 from Ny281.out.symm] at hr47; replace hr47 : Kd.C k34 _ A47 y281.length y281 := (by rw [hA47]; exact hr47); rw [← hy47, ← hA47, ← hc47] at hcut47; have HR284 := Aside0.mk hr47; have HC284 := Aside0.mk (show y281.length ≤ c47 from by rw [hy47, hc47]; exact Nat.sub_le_sub_right (Nat.le_trans (by omega) hroom47) _); clear hr47 hC47 hroom47 hi047 hsz47 hc47; have KY47 := Aside0.mk hy47; have KA47 := Aside0.mk hA47; clear hy47 hA47; replace q47 := eq_true q47) | (go_at_call 53; (with_reducible refine (ih k (by omega) _ _ y281 t285 _ ?side1 ?side2 A17.out).mono ?_); (case side1 => repeat (first | exact HR284.out | (with_reducible refine Kd.C_alloc ?_ _) | (with_reducible refine Kd.C_drewN ?_ _) | (with_reducible refine Kd.C_drew ?_))); (case side2 => exact HC284.out); rintro e w' ⟨rfl, ⟨nd, rfl⟩⟩; (try first | exact ⟨rfl, _, World.drewN_drewN _ _ _⟩ | exact ⟨rfl, _, Eq.trans (World.drewN_drewN _ _ _) (congrArg (World.drewN _) (Nat.add_assoc _ _ _))⟩); have p286 : 0 ≤ ((ji2) : Int) := of_decide_eq_true (by first | (with_reducible assumption) | assumption); have q286 : (ji2) < (l0.length : Int) := of_decide_eq_true (by first | (with_reducible assumption) | assumption); obtain ⟨ad286, e286, hx286_0, hx286_1⟩ := at_T34 HR0.out (ji2) p286 q286; obtain rfl : ad272 = ad286 := (by injection e286); replace p286 := eq_true p286; replace q286 := eq_true q286; have p288 : 0 ≤ ((ji33) : Int) := of_decide_eq_true (by first | (with_reducible assumption) | assumption); have q288 : (ji33) < (l0.length : Int) := of_decide_eq_true (by first | (with_reducible assumption) | assumption); obtain ⟨ad288, e288, hx288_0, hx288_1⟩ := at_T34 HR0.out (ji33) p288 q288; obtain rfl : ad272 = ad288 := (by injection e288); replace p288 := eq_true p288; replace q288 := eq_true q288; have p289 : 0 ≤ ((ji39) : Int) := of_decide_eq_true (by first | (with_reducible assumption) | assumption); have q289 : (ji39) < (l0.length : Int) := of_decide_eq_true (by first | (with_reducible assumption) | assumption); obtain ⟨ad289, e289, hx289_0, hx289_1⟩ := at_T34 HR0.out (ji39) p289 q289; obtain rfl : ad272 = ad289 := (by injection e289); replace p289 := eq_true p289; replace q289 := eq_true q289))
                     go_ret
                     exact ⟨by first | rfl | (simp; done) | (simp only [← hji2, ← hji33, ← hji39] <;> (first | rfl | simp)) | (simp [*]; done), by repeat (first | exact Drawn0.refl _ | apply Drawn0.step)⟩
                    ·rw [if_neg c45] at H
                     exact absurd H (by simp)
                   ·rw [if_neg c44] at H
                    exact absurd H (by simp)
                  ·rw [if_neg c43] at H
                   exact absurd H (by simp)
                 ·rw [if_neg c42] at H
                  have c42b0 : (((rd_T34 l0 (ji39)).f0) == 3) = false := beq_eq_false_iff_ne.mpr c42
                  have c42b1 : (((rd_T34 l0 (ji39)).f0) != 3) = true := bne_iff_ne.mpr c42
                  by_cases c48 : ((rd_T34 l0 (ji39)).f0) = 2
                  ·rw [if_pos c48] at H
                   have c48b0 : (((rd_T34 l0 (ji39)).f0) == 2) = true := beq_iff_eq.mpr c48
                   have c48b1 : (((rd_T34 l0 (ji39)).f0) != 2) = false := bne_eq_false_iff_eq.mpr c48
                   clear c48
                   by_cases c49 : 1 + t285.size ≤ 9223372036854775807
                   ·rw [if_pos c49] at H
                    have c49b0 := eq_true c49
                    have c49b1 : decide (1 + t285.size ≤ 9223372036854775807) = true := decide_eq_true c49
                    try have c49b2 : (9223372036854775807 < 1 + t285.size) = False := eq_false (Nat.not_lt.2 c49)
                    by_cases c50 : ((⟨#[40]⟩ : ByteArray) ++ t285).size + 1 ≤ 9223372036854775807
                    ·rw [if_pos c50] at H
                     have c50b0 := eq_true c50
                     have c50b1 : decide (((⟨#[40]⟩ : ByteArray) ++ t285).size + 1 ≤ 9223372036854775807) = true := decide_eq_true c50
                     try have c50b2 : (9223372036854775807 < ((⟨#[40]⟩ : ByteArray) ++ t285).size + 1) = False := eq_false (Nat.not_lt.2 c50)
                     have c50b3 : (9223372036854775807 < 1 + t285.size + 1) = False := eq_false (by have h_ := c50; simp only [ByteArray.size_append, show (⟨#[40]⟩ : ByteArray).size = 1 from rfl] at h_; omega)
                     by_cases c51 : (((⟨#[40]⟩ : ByteArray) ++ t280) ++ (⟨#[41]⟩ : ByteArray)).size + (((⟨#[40]⟩ : ByteArray) ++ t285) ++ (⟨#[41]⟩ : ByteArray)).size ≤ 9223372036854775807
                     ·rw [if_pos c51] at H
                      have c51b0 := eq_true c51
                      have c51b1 : decide ((((⟨#[40]⟩ : ByteArray) ++ t280) ++ (⟨#[41]⟩ : ByteArray)).size + (((⟨#[40]⟩ : ByteArray) ++ t285) ++ (⟨#[41]⟩ : ByteArray)).size ≤ 9223372036854775807) = true := decide_eq_true c51
                      try have c51b2 : (9223372036854775807 < (((⟨#[40]⟩ : ByteArray) ++ t280) ++ (⟨#[41]⟩ : ByteArray)).size + (((⟨#[40]⟩ : ByteArray) ++ t285) ++ (⟨#[41]⟩ : ByteArray)).size) = False := eq_false (Nat.not_lt.2 c51)
                      have c51b3 : (9223372036854775807 < 1 + t280.size + 1 + (1 + t285.size + 1)) = False := eq_false (by have h_ := c51; simp only [ByteArray.size_append, show (⟨#[40]⟩ : ByteArray).size = 1 from rfl, show (⟨#[41]⟩ : ByteArray).size = 1 from rfl] at h_; omega)
                      obtain rfl := Option.some.inj H
                      have p272 : 0 ≤ ((ji2) : Int) := of_decide_eq_true (by first | (with_reducible assumption) | assumption)
                      have q272 : (ji2) < (l0.length : Int) := of_decide_eq_true (by first | (with_reducible assumption) | assumption)
                      obtain ⟨ad272, e272, hx272_0, hx272_1⟩ := at_T34 HR0.out (ji2) p272 q272
                      cases e272
                      replace p272 := eq_true p272
                      replace q272 := eq_true q272
                      go_enter Try.func53, Try.ntmps53
                      go_wp2_with (first | (go_at_call 65; (with_reducible refine (spec_l9Starts.calls k _ _ l0 ji39 t275 _ ?side1 ?side2 A10.out).mono ?_); (case side1 => repeat (first | exact HR0.out | (with_reducible refine Kd.C_alloc ?_ _) | (with_reducible refine Kd.C_drewN ?_ _) | (with_reducible refine Kd.C_drew ?_))); (case side2 => exact HC0.out); rintro e w' ⟨rfl, ⟨nd, rfl⟩⟩; (try first | exact ⟨rfl, _, World.drewN_drewN _ _ _⟩ | exact ⟨rfl, _, Eq.trans (World.drewN_drewN _ _ _) (congrArg (World.drewN _) (Nat.add_assoc _ _ _))⟩); have q52 : (t275 : Int) ≤ ((l0.length : Int) : Int) := of_decide_eq_true (by first | (with_reducible assumption) | assumption); obtain ⟨i052, hi052, _, hsz52, _⟩ := info_parts info34; have hroom52 : l0.length ≤ c0 := HC0.out; have hC52 : Kd.C k34 _ (some ad272) l0.length l0 := HR0.out; have hcut52 := cut_to (P := Try.prog) 25 34 .i64 Try.underlying25 hi052 (some ad272) l0.length c0 t275 (of_decide_eq_true (by first | (with_reducible assumption) | assumption)) q52 hroom52; have hr52 := Kd.C_take (m := (t275 : Int).toNat) hC52 (by omega); have hy52 : y276.length = (t275 : Int).toNat := (by rw [Ny276.out, List.length_take]; omega); rw [← Ny276.out] at hr52; rw [← hy52] at hcut52; have HR279 := Aside0.mk hr52; have HC279 := Aside0.mk (show y276.length ≤ c0 from by omega); clear hr52 hC52 hroom52 hi052 hsz52; have KY52 := Aside0.mk hy52; clear hy52; replace q52 := eq_true q52) | (go_at_call 53; (with_reducible refine (ih k (by omega) _ _ y276 t280 _ ?side1 ?side2 A13.out).mono ?_); (case side1 => repeat (first | exact HR279.out | (with_reducible refine Kd.C_alloc ?_ _) | (with_reducible refine Kd.C_drewN ?_ _) | (with_reducible refine Kd.C_drew ?_))); (case side2 => exact HC279.out); rintro e w' ⟨rfl, ⟨nd, rfl⟩⟩; (try first | exact ⟨rfl, _, World.drewN_drewN _ _ _⟩ | exact ⟨rfl, _, Eq.trans (World.drewN_drewN _ _ _) (congrArg (World.drewN _) (Nat.add_assoc _ _ _))⟩); have q53 : ((ji2) : Int) ≤ ((l0.length : Int) : Int) := of_decide_eq_true (by first | (with_reducible assumption) | assumption); obtain ⟨i053, hi053, _, hsz53, _⟩ := info_parts info34; have hroom53 : l0.length ≤ c0 := HC0.out; have hC53 : Kd.C k34 _ (some ad272) l0.length l0 := HR0.out; have ql53 : (t275 : Int) ≤ ((ji2) : Int) := of_decide_eq_true (by first | (with_reducible assumption) | assumption); have q053 : (0 : Int) ≤ (t275 : Int) := of_decide_eq_true (by first | (with_reducible assumption) | assumption); have hcut53 := cut_mid (P := Try.prog) 25 34 .i64 .i64 Try.underlying25 hi053 2 hsz53 (some ad272) l0.length c0 t275 (ji2) q053 ql53 q53 hroom53; have hr53 := Kd.C_mid (lo := (t275 : Int).toNat) (hi := ((ji2) : Int).toNat) (c := c0) hC53 (by omega) (by omega) hroom53; obtain ⟨A53, hA53⟩ : ∃ A1, A1 = (if c0 = (t275 : Int).toNat then (some ad272) else ((some ad272) : Option Addr).map (·.add ((t275 : Int).toNat * 2))) := ⟨_, rfl⟩; obtain ⟨c53, hc53⟩ : ∃ c1, c1 = c0 - (t275 : Int).toNat := ⟨_, rfl⟩; have hy53 : y281.length = ((ji2) : Int).toNat - (t275 : Int).toNat := (by rw [Ny281.out, List.length_drop, List.length_take] <;> omega); rw [show ((l0).take ((ji2) : Int).toNat).drop (t275 : Int).toNat = y281 from Ny281.out.symm] at hr53; replace hr53 : Kd.C k34 _ A53 y281.length y281 := (by rw [hA53]; exact hr53); rw [← hy53, ← hA53, ← hc53] at hcut53; have HR284 := Aside0.mk hr53; have HC284 := Aside0.mk (show y281.length ≤ c53 from by rw [hy53, hc53]; exact Nat.sub_le_sub_right (Nat.le_trans (by omega) hroom53) _); clear hr53 hC53 hroom53 hi053 hsz53 hc53; have KY53 := Aside0.mk hy53; have KA53 := Aside0.mk hA53; clear hy53 hA53; replace q53 := eq_true q53) | (go_at_call 53; (with_reducible refine (ih k (by omega) _ _ y281 t285 _ ?side1 ?side2 A17.out).mono ?_); (case side1 => repeat (first | exact HR284.out | (with_reducible refine Kd.C_alloc ?_ _) | (with_reducible refine Kd.C_drewN ?_ _) | (with_reducible refine Kd.C_drew ?_))); (case side2 => exact HC284.out); rintro e w' ⟨rfl, ⟨nd, rfl⟩⟩; (try first | exact ⟨rfl, _, World.drewN_drewN _ _ _⟩ | exact ⟨rfl, _, Eq.trans (World.drewN_drewN _ _ _) (congrArg (World.drewN _) (Nat.add_assoc _ _ _))⟩); have p286 : 0 ≤ ((ji2) : Int) := of_decide_eq_true (by first | (with_reducible assumption) | assumption); have q286 : (ji2) < (l0.length : Int) := of_decide_eq_true (by first | (with_reducible assumption) | assumption); obtain ⟨ad286, e286, hx286_0, hx286_1⟩ := at_T34 HR0.out (ji2) p286 q286; obtain rfl : ad272 = ad286 := (by injection e286); replace p286 := eq_true p286; replace q286 := eq_true q286; have p288 : 0 ≤ ((ji33) : Int) := of_decide_eq_true (by first | (with_reducible assumption) | assumption); have q288 : (ji33) < (l0.length : Int) := of_decide_eq_true (by first | (with_reducible assumption) | assumption); obtain ⟨ad288, e288, hx288_0, hx288_1⟩ := at_T34 HR0.out (ji33) p288 q288; obtain rfl : ad272 = ad288 := (by injection e288); replace p288 := eq_true p288; replace q288 := eq_true q288; have p289 : 0 ≤ ((ji39) : Int) := of_decide_eq_true (by first | (with_reducible assumption) | assumption); have q289 : (ji39) < (l0.length : Int) := of_decide_eq_true (by first | (with_reducible assumption) | assumption); obtain ⟨ad289, e289, hx289_0, hx289_1⟩ := at_T34 HR0.out (ji39) p289 q289; obtain rfl : ad272 = ad289 := (by injection e289); replace p289 := eq_true p289; replace q289 := eq_true q289; have p290 : 0 ≤ ((ji39) : Int) := of_decide_eq_true (by first | (with_reducible assumption) | assumption); have q290 : (ji39) < (l0.length : Int) := of_decide_eq_true (by first | (with_reducible assumption) | assumption); obtain ⟨ad290, e290, hx290_0, hx290_1⟩ := at_T34 HR0.out (ji39) p290 q290; obtain rfl : ad272 = ad290 := (by injection e290); replace p290 := eq_true p290; replace q290 := eq_true q290))
                      go_ret
                      exact ⟨by first | rfl | (simp; done) | (simp only [← hji2, ← hji33, ← hji39] <;> (first | rfl | simp)) | (simp [*]; done), by repeat (first | exact Drawn0.refl _ | apply Drawn0.step)⟩
                     ·rw [if_neg c51] at H
                      exact absurd H (by simp)
                    ·rw [if_neg c50] at H
                     exact absurd H (by simp)
                   ·rw [if_neg c49] at H
                    exact absurd H (by simp)
                  ·rw [if_neg c48] at H
                   have c48b0 : (((rd_T34 l0 (ji39)).f0) == 2) = false := beq_eq_false_iff_ne.mpr c48
                   have c48b1 : (((rd_T34 l0 (ji39)).f0) != 2) = true := bne_iff_ne.mpr c48
                   by_cases c54 : (((⟨#[40]⟩ : ByteArray) ++ t280) ++ (⟨#[41]⟩ : ByteArray)).size + t285.size ≤ 9223372036854775807
                   ·rw [if_pos c54] at H
                    have c54b0 := eq_true c54
                    have c54b1 : decide ((((⟨#[40]⟩ : ByteArray) ++ t280) ++ (⟨#[41]⟩ : ByteArray)).size + t285.size ≤ 9223372036854775807) = true := decide_eq_true c54
                    try have c54b2 : (9223372036854775807 < (((⟨#[40]⟩ : ByteArray) ++ t280) ++ (⟨#[41]⟩ : ByteArray)).size + t285.size) = False := eq_false (Nat.not_lt.2 c54)
                    have c54b3 : (9223372036854775807 < 1 + t280.size + 1 + t285.size) = False := eq_false (by have h_ := c54; simp only [ByteArray.size_append, show (⟨#[40]⟩ : ByteArray).size = 1 from rfl, show (⟨#[41]⟩ : ByteArray).size = 1 from rfl] at h_; omega)
                    obtain rfl := Option.some.inj H
                    have p272 : 0 ≤ ((ji2) : Int) := of_decide_eq_true (by first | (with_reducible assumption) | assumption)
                    have q272 : (ji2) < (l0.length : Int) := of_decide_eq_true (by first | (with_reducible assumption) | assumption)
                    obtain ⟨ad272, e272, hx272_0, hx272_1⟩ := at_T34 HR0.out (ji2) p272 q272
                    cases e272
                    replace p272 := eq_true p272
                    replace q272 := eq_true q272
                    go_enter Try.func53, Try.ntmps53
                    go_wp2_with (first | (go_at_call 65; (with_reducible refine (spec_l9Starts.calls k _ _ l0 ji39 t275 _ ?side1 ?side2 A10.out).mono ?_); (case side1 => repeat (first | exact HR0.out | (with_reducible refine Kd.C_alloc ?_ _) | (with_reducible refine Kd.C_drewN ?_ _) | (with_reducible refine Kd.C_drew ?_))); (case side2 => exact HC0.out); rintro e w' ⟨rfl, ⟨nd, rfl⟩⟩; (try first | exact ⟨rfl, _, World.drewN_drewN _ _ _⟩ | exact ⟨rfl, _, Eq.trans (World.drewN_drewN _ _ _) (congrArg (World.drewN _) (Nat.add_assoc _ _ _))⟩); have q55 : (t275 : Int) ≤ ((l0.length : Int) : Int) := of_decide_eq_true (by first | (with_reducible assumption) | assumption); obtain ⟨i055, hi055, _, hsz55, _⟩ := info_parts info34; have hroom55 : l0.length ≤ c0 := HC0.out; have hC55 : Kd.C k34 _ (some ad272) l0.length l0 := HR0.out; have hcut55 := cut_to (P := Try.prog) 25 34 .i64 Try.underlying25 hi055 (some ad272) l0.length c0 t275 (of_decide_eq_true (by first | (with_reducible assumption) | assumption)) q55 hroom55; have hr55 := Kd.C_take (m := (t275 : Int).toNat) hC55 (by omega); have hy55 : y276.length = (t275 : Int).toNat := (by rw [Ny276.out, List.length_take]; omega); rw [← Ny276.out] at hr55; rw [← hy55] at hcut55; have HR279 := Aside0.mk hr55; have HC279 := Aside0.mk (show y276.length ≤ c0 from by omega); clear hr55 hC55 hroom55 hi055 hsz55; have KY55 := Aside0.mk hy55; clear hy55; replace q55 := eq_true q55) | (go_at_call 53; (with_reducible refine (ih k (by omega) _ _ y276 t280 _ ?side1 ?side2 A13.out).mono ?_); (case side1 => repeat (first | exact HR279.out | (with_reducible refine Kd.C_alloc ?_ _) | (with_reducible refine Kd.C_drewN ?_ _) | (with_reducible refine Kd.C_drew ?_))); (case side2 => exact HC279.out); rintro e w' ⟨rfl, ⟨nd, rfl⟩⟩; (try first | exact ⟨rfl, _, World.drewN_drewN _ _ _⟩ | exact ⟨rfl, _, Eq.trans (World.drewN_drewN _ _ _) (congrArg (World.drewN _) (Nat.add_assoc _ _ _))⟩); have q56 : ((ji2) : Int) ≤ ((l0.length : Int) : Int) := of_decide_eq_true (by first | (with_reducible assumption) | assumption); obtain ⟨i056, hi056, _, hsz56, _⟩ := info_parts info34; have hroom56 : l0.length ≤ c0 := HC0.out; have hC56 : Kd.C k34 _ (some ad272) l0.length l0 := HR0.out; have ql56 : (t275 : Int) ≤ ((ji2) : Int) := of_decide_eq_true (by first | (with_reducible assumption) | assumption); have q056 : (0 : Int) ≤ (t275 : Int) := of_decide_eq_true (by first | (with_reducible assumption) | assumption); have hcut56 := cut_mid (P := Try.prog) 25 34 .i64 .i64 Try.underlying25 hi056 2 hsz56 (some ad272) l0.length c0 t275 (ji2) q056 ql56 q56 hroom56; have hr56 := Kd.C_mid (lo := (t275 : Int).toNat) (hi := ((ji2) : Int).toNat) (c := c0) hC56 (by omega) (by omega) hroom56; obtain ⟨A56, hA56⟩ : ∃ A1, A1 = (if c0 = (t275 : Int).toNat then (some ad272) else ((some ad272) : Option Addr).map (·.add ((t275 : Int).toNat * 2))) := ⟨_, rfl⟩; obtain ⟨c56, hc56⟩ : ∃ c1, c1 = c0 - (t275 : Int).toNat := ⟨_, rfl⟩; have hy56 : y281.length = ((ji2) : Int).toNat - (t275 : Int).toNat := (by rw [Ny281.out, List.length_drop, List.length_take] <;> omega); rw [show ((l0).take ((ji2) : Int).toNat).drop (t275 : Int).toNat = y281 from Ny281.out.symm] at hr56; replace hr56 : Kd.C k34 _ A56 y281.length y281 := (by rw [hA56]; exact hr56); rw [← hy56, ← hA56, ← hc56] at hcut56; have HR284 := Aside0.mk hr56; have HC284 := Aside0.mk (show y281.length ≤ c56 from by rw [hy56, hc56]; exact Nat.sub_le_sub_right (Nat.le_trans (by omega) hroom56) _); clear hr56 hC56 hroom56 hi056 hsz56 hc56; have KY56 := Aside0.mk hy56; have KA56 := Aside0.mk hA56; clear hy56 hA56; replace q56 := eq_true q56) | (go_at_call 53; (with_reducible refine (ih k (by omega) _ _ y281 t285 _ ?side1 ?side2 A17.out).mono ?_); (case side1 => repeat (first | exact HR284.out | (with_reducible refine Kd.C_alloc ?_ _) | (with_reducible refine Kd.C_drewN ?_ _) | (with_reducible refine Kd.C_drew ?_))); (case side2 => exact HC284.out); rintro e w' ⟨rfl, ⟨nd, rfl⟩⟩; (try first | exact ⟨rfl, _, World.drewN_drewN _ _ _⟩ | exact ⟨rfl, _, Eq.trans (World.drewN_drewN _ _ _) (congrArg (World.drewN _) (Nat.add_assoc _ _ _))⟩); have p286 : 0 ≤ ((ji2) : Int) := of_decide_eq_true (by first | (with_reducible assumption) | assumption); have q286 : (ji2) < (l0.length : Int) := of_decide_eq_true (by first | (with_reducible assumption) | assumption); obtain ⟨ad286, e286, hx286_0, hx286_1⟩ := at_T34 HR0.out (ji2) p286 q286; obtain rfl : ad272 = ad286 := (by injection e286); replace p286 := eq_true p286; replace q286 := eq_true q286; have p288 : 0 ≤ ((ji33) : Int) := of_decide_eq_true (by first | (with_reducible assumption) | assumption); have q288 : (ji33) < (l0.length : Int) := of_decide_eq_true (by first | (with_reducible assumption) | assumption); obtain ⟨ad288, e288, hx288_0, hx288_1⟩ := at_T34 HR0.out (ji33) p288 q288; obtain rfl : ad272 = ad288 := (by injection e288); replace p288 := eq_true p288; replace q288 := eq_true q288; have p289 : 0 ≤ ((ji39) : Int) := of_decide_eq_true (by first | (with_reducible assumption) | assumption); have q289 : (ji39) < (l0.length : Int) := of_decide_eq_true (by first | (with_reducible assumption) | assumption); obtain ⟨ad289, e289, hx289_0, hx289_1⟩ := at_T34 HR0.out (ji39) p289 q289; obtain rfl : ad272 = ad289 := (by injection e289); replace p289 := eq_true p289; replace q289 := eq_true q289; have p290 : 0 ≤ ((ji39) : Int) := of_decide_eq_true (by first | (with_reducible assumption) | assumption); have q290 : (ji39) < (l0.length : Int) := of_decide_eq_true (by first | (with_reducible assumption) | assumption); obtain ⟨ad290, e290, hx290_0, hx290_1⟩ := at_T34 HR0.out (ji39) p290 q290; obtain rfl : ad272 = ad290 := (by injection e290); replace p290 := eq_true p290; replace q290 := eq_true q290))
                    go_ret
                    exact ⟨by first | rfl | (simp; done) | (simp only [← hji2, ← hji33, ← hji39] <;> (first | rfl | simp)) | (simp [*]; done), by repeat (first | exact Drawn0.refl _ | apply Drawn0.step)⟩
                   ·rw [if_neg c54] at H
                    exact absurd H (by simp)
                ·rw [if_neg c41] at H
                 exact absurd H (by simp)
               ·rw [if_neg c40] at H
                exact absurd H (by simp)
              ·rw [if_neg c38] at H
               exact absurd H (by simp)
             ·rw [if_neg c37] at H
              exact absurd H (by simp)
            ·rw [if_neg c36] at H
             have c36b0 : (((rd_T34 l0 (ji33)).f0) == 3) = false := beq_eq_false_iff_ne.mpr c36
             have c36b1 : (((rd_T34 l0 (ji33)).f0) != 3) = true := bne_iff_ne.mpr c36
             obtain ⟨ji57, hji57⟩ : ∃ j_ : Int, (wrap64 ((ji2) - 1)) = j_ := ⟨_, rfl⟩
             replace H : (if 0 ≤ (ji57) then (if (ji57) < (l0.length : Int) then (if ((rd_T34 l0 (ji57)).f0) = 3 then (if 1 + t285.size ≤ 9223372036854775807 then (if ((⟨#[40]⟩ : ByteArray) ++ t285).size + 1 ≤ 9223372036854775807 then (if t280.size + (((⟨#[40]⟩ : ByteArray) ++ t285) ++ (⟨#[41]⟩ : ByteArray)).size ≤ 9223372036854775807 then (some (t280 ++ (((⟨#[40]⟩ : ByteArray) ++ t285) ++ (⟨#[41]⟩ : ByteArray)))) else (none)) else (none)) else (none)) else (if ((rd_T34 l0 (ji57)).f0) = 2 then (if 1 + t285.size ≤ 9223372036854775807 then (if ((⟨#[40]⟩ : ByteArray) ++ t285).size + 1 ≤ 9223372036854775807 then (if t280.size + (((⟨#[40]⟩ : ByteArray) ++ t285) ++ (⟨#[41]⟩ : ByteArray)).size ≤ 9223372036854775807 then (some (t280 ++ (((⟨#[40]⟩ : ByteArray) ++ t285) ++ (⟨#[41]⟩ : ByteArray)))) else (none)) else (none)) else (none)) else (if t280.size + t285.size ≤ 9223372036854775807 then (some (t280 ++ t285)) else (none)))) else (none)) else (none)) = some r := by first | (rw [hji57] at H; exact H) | (simp only [hji57] at H ⊢; exact H)
             (try rw [hji57] at A10)
             (try rw [hji57] at A13)
             (try rw [hji57] at A17)
             have hji57w : (IntKind.i64.wrap ((ji2) - 1)) = ji57 := (i64_w _).trans hji57
             by_cases c58 : 0 ≤ (ji57)
             ·rw [if_pos c58] at H
              have c58b0 : decide (0 ≤ (ji57)) = true := decide_eq_true c58
              clear c58
              by_cases c59 : (ji57) < (l0.length : Int)
              ·rw [if_pos c59] at H
               have c59b0 : decide ((ji57) < (l0.length : Int)) = true := decide_eq_true c59
               clear c59
               by_cases c60 : ((rd_T34 l0 (ji57)).f0) = 3
               ·rw [if_pos c60] at H
                have c60b0 : (((rd_T34 l0 (ji57)).f0) == 3) = true := beq_iff_eq.mpr c60
                have c60b1 : (((rd_T34 l0 (ji57)).f0) != 3) = false := bne_eq_false_iff_eq.mpr c60
                clear c60
                by_cases c61 : 1 + t285.size ≤ 9223372036854775807
                ·rw [if_pos c61] at H
                 have c61b0 := eq_true c61
                 have c61b1 : decide (1 + t285.size ≤ 9223372036854775807) = true := decide_eq_true c61
                 try have c61b2 : (9223372036854775807 < 1 + t285.size) = False := eq_false (Nat.not_lt.2 c61)
                 by_cases c62 : ((⟨#[40]⟩ : ByteArray) ++ t285).size + 1 ≤ 9223372036854775807
                 ·rw [if_pos c62] at H
                  have c62b0 := eq_true c62
                  have c62b1 : decide (((⟨#[40]⟩ : ByteArray) ++ t285).size + 1 ≤ 9223372036854775807) = true := decide_eq_true c62
                  try have c62b2 : (9223372036854775807 < ((⟨#[40]⟩ : ByteArray) ++ t285).size + 1) = False := eq_false (Nat.not_lt.2 c62)
                  have c62b3 : (9223372036854775807 < 1 + t285.size + 1) = False := eq_false (by have h_ := c62; simp only [ByteArray.size_append, show (⟨#[40]⟩ : ByteArray).size = 1 from rfl] at h_; omega)
                  by_cases c63 : t280.size + (((⟨#[40]⟩ : ByteArray) ++ t285) ++ (⟨#[41]⟩ : ByteArray)).size ≤ 9223372036854775807
                  ·rw [if_pos c63] at H
                   have c63b0 := eq_true c63
                   have c63b1 : decide (t280.size + (((⟨#[40]⟩ : ByteArray) ++ t285) ++ (⟨#[41]⟩ : ByteArray)).size ≤ 9223372036854775807) = true := decide_eq_true c63
                   try have c63b2 : (9223372036854775807 < t280.size + (((⟨#[40]⟩ : ByteArray) ++ t285) ++ (⟨#[41]⟩ : ByteArray)).size) = False := eq_false (Nat.not_lt.2 c63)
                   have c63b3 : (9223372036854775807 < t280.size + (1 + t285.size + 1)) = False := eq_false (by have h_ := c63; simp only [ByteArray.size_append, show (⟨#[40]⟩ : ByteArray).size = 1 from rfl, show (⟨#[41]⟩ : ByteArray).size = 1 from rfl] at h_; omega)
                   obtain rfl := Option.some.inj H
                   have p272 : 0 ≤ ((ji2) : Int) := of_decide_eq_true (by first | (with_reducible assumption) | assumption)
                   have q272 : (ji2) < (l0.length : Int) := of_decide_eq_true (by first | (with_reducible assumption) | assumption)
                   obtain ⟨ad272, e272, hx272_0, hx272_1⟩ := at_T34 HR0.out (ji2) p272 q272
                   cases e272
                   replace p272 := eq_true p272
                   replace q272 := eq_true q272
                   go_enter Try.func53, Try.ntmps53
                   go_wp2_with (first | (go_at_call 65; (with_reducible refine (spec_l9Starts.calls k _ _ l0 ji57 t275 _ ?side1 ?side2 A10.out).mono ?_); (case side1 => repeat (first | exact HR0.out | (with_reducible refine Kd.C_alloc ?_ _) | (with_reducible refine Kd.C_drewN ?_ _) | (with_reducible refine Kd.C_drew ?_))); (case side2 => exact HC0.out); rintro e w' ⟨rfl, ⟨nd, rfl⟩⟩; (try first | exact ⟨rfl, _, World.drewN_drewN _ _ _⟩ | exact ⟨rfl, _, Eq.trans (World.drewN_drewN _ _ _) (congrArg (World.drewN _) (Nat.add_assoc _ _ _))⟩); have q64 : (t275 : Int) ≤ ((l0.length : Int) : Int) := of_decide_eq_true (by first | (with_reducible assumption) | assumption); obtain ⟨i064, hi064, _, hsz64, _⟩ := info_parts info34; have hroom64 : l0.length ≤ c0 := HC0.out; have hC64 : Kd.C k34 _ (some ad272) l0.length l0 := HR0.out; have hcut64 := cut_to (P := Try.prog) 25 34 .i64 Try.underlying25 hi064 (some ad272) l0.length c0 t275 (of_decide_eq_true (by first | (with_reducible assumption) | assumption)) q64 hroom64; have hr64 := Kd.C_take (m := (t275 : Int).toNat) hC64 (by omega); have hy64 : y276.length = (t275 : Int).toNat := (by rw [Ny276.out, List.length_take]; omega); rw [← Ny276.out] at hr64; rw [← hy64] at hcut64; have HR279 := Aside0.mk hr64; have HC279 := Aside0.mk (show y276.length ≤ c0 from by omega); clear hr64 hC64 hroom64 hi064 hsz64; have KY64 := Aside0.mk hy64; clear hy64; replace q64 := eq_true q64) | (go_at_call 53; (with_reducible refine (ih k (by omega) _ _ y276 t280 _ ?side1 ?side2 A13.out).mono ?_); (case side1 => repeat (first | exact HR279.out | (with_reducible refine Kd.C_alloc ?_ _) | (with_reducible refine Kd.C_drewN ?_ _) | (with_reducible refine Kd.C_drew ?_))); (case side2 => exact HC279.out); rintro e w' ⟨rfl, ⟨nd, rfl⟩⟩; (try first | exact ⟨rfl, _, World.drewN_drewN _ _ _⟩ | exact ⟨rfl, _, Eq.trans (World.drewN_drewN _ _ _) (congrArg (World.drewN _) (Nat.add_assoc _ _ _))⟩); have q65 : ((ji2) : Int) ≤ ((l0.length : Int) : Int) := of_decide_eq_true (by first | (with_reducible assumption) | assumption); obtain ⟨i065, hi065, _, hsz65, _⟩ := info_parts info34; have hroom65 : l0.length ≤ c0 := HC0.out; have hC65 : Kd.C k34 _ (some ad272) l0.length l0 := HR0.out; have ql65 : (t275 : Int) ≤ ((ji2) : Int) := of_decide_eq_true (by first | (with_reducible assumption) | assumption); have q065 : (0 : Int) ≤ (t275 : Int) := of_decide_eq_true (by first | (with_reducible assumption) | assumption); have hcut65 := cut_mid (P := Try.prog) 25 34 .i64 .i64 Try.underlying25 hi065 2 hsz65 (some ad272) l0.length c0 t275 (ji2) q065 ql65 q65 hroom65; have hr65 := Kd.C_mid (lo := (t275 : Int).toNat) (hi := ((ji2) : Int).toNat) (c := c0) hC65 (by omega) (by omega) hroom65; obtain ⟨A65, hA65⟩ : ∃ A1, A1 = (if c0 = (t275 : Int).toNat then (some ad272) else ((some ad272) : Option Addr).map (·.add ((t275 : Int).toNat * 2))) := ⟨_, rfl⟩; obtain ⟨c65, hc65⟩ : ∃ c1, c1 = c0 - (t275 : Int).toNat := ⟨_, rfl⟩; have hy65 : y281.length = ((ji2) : Int).toNat - (t275 : Int).toNat := (by rw [Ny281.out, List.length_drop, List.length_take] <;> omega); rw [show ((l0).take ((ji2) : Int).toNat).drop (t275 : Int).toNat = y281 from Ny281.out.symm] at hr65; replace hr65 : Kd.C k34 _ A65 y281.length y281 := (by rw [hA65]; exact hr65); rw [← hy65, ← hA65, ← hc65] at hcut65; have HR284 := Aside0.mk hr65; have HC284 := Aside0.mk (show y281.length ≤ c65 from by rw [hy65, hc65]; exact Nat.sub_le_sub_right (Nat.le_trans (by omega) hroom65) _); clear hr65 hC65 hroom65 hi065 hsz65 hc65; have KY65 := Aside0.mk hy65; have KA65 := Aside0.mk hA65; clear hy65 hA65; replace q65 := eq_true q65) | (go_at_call 53; (with_reducible refine (ih k (by omega) _ _ y281 t285 _ ?side1 ?side2 A17.out).mono ?_); (case side1 => repeat (first | exact HR284.out | (with_reducible refine Kd.C_alloc ?_ _) | (with_reducible refine Kd.C_drewN ?_ _) | (with_reducible refine Kd.C_drew ?_))); (case side2 => exact HC284.out); rintro e w' ⟨rfl, ⟨nd, rfl⟩⟩; (try first | exact ⟨rfl, _, World.drewN_drewN _ _ _⟩ | exact ⟨rfl, _, Eq.trans (World.drewN_drewN _ _ _) (congrArg (World.drewN _) (Nat.add_assoc _ _ _))⟩); have p286 : 0 ≤ ((ji2) : Int) := of_decide_eq_true (by first | (with_reducible assumption) | assumption); have q286 : (ji2) < (l0.length : Int) := of_decide_eq_true (by first | (with_reducible assumption) | assumption); obtain ⟨ad286, e286, hx286_0, hx286_1⟩ := at_T34 HR0.out (ji2) p286 q286; obtain rfl : ad272 = ad286 := (by injection e286); replace p286 := eq_true p286; replace q286 := eq_true q286; have p288 : 0 ≤ ((ji33) : Int) := of_decide_eq_true (by first | (with_reducible assumption) | assumption); have q288 : (ji33) < (l0.length : Int) := of_decide_eq_true (by first | (with_reducible assumption) | assumption); obtain ⟨ad288, e288, hx288_0, hx288_1⟩ := at_T34 HR0.out (ji33) p288 q288; obtain rfl : ad272 = ad288 := (by injection e288); replace p288 := eq_true p288; replace q288 := eq_true q288; have p291 : 0 ≤ ((ji57) : Int) := of_decide_eq_true (by first | (with_reducible assumption) | assumption); have q291 : (ji57) < (l0.length : Int) := of_decide_eq_true (by first | (with_reducible assumption) | assumption); obtain ⟨ad291, e291, hx291_0, hx291_1⟩ := at_T34 HR0.out (ji57) p291 q291; obtain rfl : ad272 = ad291 := (by injection e291); replace p291 := eq_true p291; replace q291 := eq_true q291))
                   go_ret
                   exact ⟨by first | rfl | (simp; done) | (simp only [← hji2, ← hji33, ← hji57] <;> (first | rfl | simp)) | (simp [*]; done), by repeat (first | exact Drawn0.refl _ | apply Drawn0.step)⟩
                  ·rw [if_neg c63] at H
                   exact absurd H (by simp)
                 ·rw [if_neg c62] at H
                  exact absurd H (by simp)
                ·rw [if_neg c61] at H
                 exact absurd H (by simp)
               ·rw [if_neg c60] at H
                have c60b0 : (((rd_T34 l0 (ji57)).f0) == 3) = false := beq_eq_false_iff_ne.mpr c60
                have c60b1 : (((rd_T34 l0 (ji57)).f0) != 3) = true := bne_iff_ne.mpr c60
                by_cases c66 : ((rd_T34 l0 (ji57)).f0) = 2
                ·rw [if_pos c66] at H
                 have c66b0 : (((rd_T34 l0 (ji57)).f0) == 2) = true := beq_iff_eq.mpr c66
                 have c66b1 : (((rd_T34 l0 (ji57)).f0) != 2) = false := bne_eq_false_iff_eq.mpr c66
                 clear c66
                 by_cases c67 : 1 + t285.size ≤ 9223372036854775807
                 ·rw [if_pos c67] at H
                  have c67b0 := eq_true c67
                  have c67b1 : decide (1 + t285.size ≤ 9223372036854775807) = true := decide_eq_true c67
                  try have c67b2 : (9223372036854775807 < 1 + t285.size) = False := eq_false (Nat.not_lt.2 c67)
                  by_cases c68 : ((⟨#[40]⟩ : ByteArray) ++ t285).size + 1 ≤ 9223372036854775807
                  ·rw [if_pos c68] at H
                   have c68b0 := eq_true c68
                   have c68b1 : decide (((⟨#[40]⟩ : ByteArray) ++ t285).size + 1 ≤ 9223372036854775807) = true := decide_eq_true c68
                   try have c68b2 : (9223372036854775807 < ((⟨#[40]⟩ : ByteArray) ++ t285).size + 1) = False := eq_false (Nat.not_lt.2 c68)
                   have c68b3 : (9223372036854775807 < 1 + t285.size + 1) = False := eq_false (by have h_ := c68; simp only [ByteArray.size_append, show (⟨#[40]⟩ : ByteArray).size = 1 from rfl] at h_; omega)
                   by_cases c69 : t280.size + (((⟨#[40]⟩ : ByteArray) ++ t285) ++ (⟨#[41]⟩ : ByteArray)).size ≤ 9223372036854775807
                   ·rw [if_pos c69] at H
                    have c69b0 := eq_true c69
                    have c69b1 : decide (t280.size + (((⟨#[40]⟩ : ByteArray) ++ t285) ++ (⟨#[41]⟩ : ByteArray)).size ≤ 9223372036854775807) = true := decide_eq_true c69
                    try have c69b2 : (9223372036854775807 < t280.size + (((⟨#[40]⟩ : ByteArray) ++ t285) ++ (⟨#[41]⟩ : ByteArray)).size) = False := eq_false (Nat.not_lt.2 c69)
                    have c69b3 : (9223372036854775807 < t280.size + (1 + t285.size + 1)) = False := eq_false (by have h_ := c69; simp only [ByteArray.size_append, show (⟨#[40]⟩ : ByteArray).size = 1 from rfl, show (⟨#[41]⟩ : ByteArray).size = 1 from rfl] at h_; omega)
                    obtain rfl := Option.some.inj H
                    have p272 : 0 ≤ ((ji2) : Int) := of_decide_eq_true (by first | (with_reducible assumption) | assumption)
                    have q272 : (ji2) < (l0.length : Int) := of_decide_eq_true (by first | (with_reducible assumption) | assumption)
                    obtain ⟨ad272, e272, hx272_0, hx272_1⟩ := at_T34 HR0.out (ji2) p272 q272
                    cases e272
                    replace p272 := eq_true p272
                    replace q272 := eq_true q272
                    go_enter Try.func53, Try.ntmps53
                    go_wp2_with (first | (go_at_call 65; (with_reducible refine (spec_l9Starts.calls k _ _ l0 ji57 t275 _ ?side1 ?side2 A10.out).mono ?_); (case side1 => repeat (first | exact HR0.out | (with_reducible refine Kd.C_alloc ?_ _) | (with_reducible refine Kd.C_drewN ?_ _) | (with_reducible refine Kd.C_drew ?_))); (case side2 => exact HC0.out); rintro e w' ⟨rfl, ⟨nd, rfl⟩⟩; (try first | exact ⟨rfl, _, World.drewN_drewN _ _ _⟩ | exact ⟨rfl, _, Eq.trans (World.drewN_drewN _ _ _) (congrArg (World.drewN _) (Nat.add_assoc _ _ _))⟩); have q70 : (t275 : Int) ≤ ((l0.length : Int) : Int) := of_decide_eq_true (by first | (with_reducible assumption) | assumption); obtain ⟨i070, hi070, _, hsz70, _⟩ := info_parts info34; have hroom70 : l0.length ≤ c0 := HC0.out; have hC70 : Kd.C k34 _ (some ad272) l0.length l0 := HR0.out; have hcut70 := cut_to (P := Try.prog) 25 34 .i64 Try.underlying25 hi070 (some ad272) l0.length c0 t275 (of_decide_eq_true (by first | (with_reducible assumption) | assumption)) q70 hroom70; have hr70 := Kd.C_take (m := (t275 : Int).toNat) hC70 (by omega); have hy70 : y276.length = (t275 : Int).toNat := (by rw [Ny276.out, List.length_take]; omega); rw [← Ny276.out] at hr70; rw [← hy70] at hcut70; have HR279 := Aside0.mk hr70; have HC279 := Aside0.mk (show y276.length ≤ c0 from by omega); clear hr70 hC70 hroom70 hi070 hsz70; have KY70 := Aside0.mk hy70; clear hy70; replace q70 := eq_true q70) | (go_at_call 53; (with_reducible refine (ih k (by omega) _ _ y276 t280 _ ?side1 ?side2 A13.out).mono ?_); (case side1 => repeat (first | exact HR279.out | (with_reducible refine Kd.C_alloc ?_ _) | (with_reducible refine Kd.C_drewN ?_ _) | (with_reducible refine Kd.C_drew ?_))); (case side2 => exact HC279.out); rintro e w' ⟨rfl, ⟨nd, rfl⟩⟩; (try first | exact ⟨rfl, _, World.drewN_drewN _ _ _⟩ | exact ⟨rfl, _, Eq.trans (World.drewN_drewN _ _ _) (congrArg (World.drewN _) (Nat.add_assoc _ _ _))⟩); have q71 : ((ji2) : Int) ≤ ((l0.length : Int) : Int) := of_decide_eq_true (by first | (with_reducible assumption) | assumption); obtain ⟨i071, hi071, _, hsz71, _⟩ := info_parts info34; have hroom71 : l0.length ≤ c0 := HC0.out; have hC71 : Kd.C k34 _ (some ad272) l0.length l0 := HR0.out; have ql71 : (t275 : Int) ≤ ((ji2) : Int) := of_decide_eq_true (by first | (with_reducible assumption) | assumption); have q071 : (0 : Int) ≤ (t275 : Int) := of_decide_eq_true (by first | (with_reducible assumption) | assumption); have hcut71 := cut_mid (P := Try.prog) 25 34 .i64 .i64 Try.underlying25 hi071 2 hsz71 (some ad272) l0.length c0 t275 (ji2) q071 ql71 q71 hroom71; have hr71 := Kd.C_mid (lo := (t275 : Int).toNat) (hi := ((ji2) : Int).toNat) (c := c0) hC71 (by omega) (by omega) hroom71; obtain ⟨A71, hA71⟩ : ∃ A1, A1 = (if c0 = (t275 : Int).toNat then (some ad272) else ((some ad272) : Option Addr).map (·.add ((t275 : Int).toNat * 2))) := ⟨_, rfl⟩; obtain ⟨c71, hc71⟩ : ∃ c1, c1 = c0 - (t275 : Int).toNat := ⟨_, rfl⟩; have hy71 : y281.length = ((ji2) : Int).toNat - (t275 : Int).toNat := (by rw [Ny281.out, List.length_drop, List.length_take] <;> omega); rw [show ((l0).take ((ji2) : Int).toNat).drop (t275 : Int).toNat = y281 from Ny281.out.symm] at hr71; replace hr71 : Kd.C k34 _ A71 y281.length y281 := (by rw [hA71]; exact hr71); rw [← hy71, ← hA71, ← hc71] at hcut71; have HR284 := Aside0.mk hr71; have HC284 := Aside0.mk (show y281.length ≤ c71 from by rw [hy71, hc71]; exact Nat.sub_le_sub_right (Nat.le_trans (by omega) hroom71) _); clear hr71 hC71 hroom71 hi071 hsz71 hc71; have KY71 := Aside0.mk hy71; have KA71 := Aside0.mk hA71; clear hy71 hA71; replace q71 := eq_true q71) | (go_at_call 53; (with_reducible refine (ih k (by omega) _ _ y281 t285 _ ?side1 ?side2 A17.out).mono ?_); (case side1 => repeat (first | exact HR284.out | (with_reducible refine Kd.C_alloc ?_ _) | (with_reducible refine Kd.C_drewN ?_ _) | (with_reducible refine Kd.C_drew ?_))); (case side2 => exact HC284.out); rintro e w' ⟨rfl, ⟨nd, rfl⟩⟩; (try first | exact ⟨rfl, _, World.drewN_drewN _ _ _⟩ | exact ⟨rfl, _, Eq.trans (World.drewN_drewN _ _ _) (congrArg (World.drewN _) (Nat.add_assoc _ _ _))⟩); have p286 : 0 ≤ ((ji2) : Int) := of_decide_eq_true (by first | (with_reducible assumption) | assumption); have q286 : (ji2) < (l0.length : Int) := of_decide_eq_true (by first | (with_reducible assumption) | assumption); obtain ⟨ad286, e286, hx286_0, hx286_1⟩ := at_T34 HR0.out (ji2) p286 q286; obtain rfl : ad272 = ad286 := (by injection e286); replace p286 := eq_true p286; replace q286 := eq_true q286; have p288 : 0 ≤ ((ji33) : Int) := of_decide_eq_true (by first | (with_reducible assumption) | assumption); have q288 : (ji33) < (l0.length : Int) := of_decide_eq_true (by first | (with_reducible assumption) | assumption); obtain ⟨ad288, e288, hx288_0, hx288_1⟩ := at_T34 HR0.out (ji33) p288 q288; obtain rfl : ad272 = ad288 := (by injection e288); replace p288 := eq_true p288; replace q288 := eq_true q288; have p291 : 0 ≤ ((ji57) : Int) := of_decide_eq_true (by first | (with_reducible assumption) | assumption); have q291 : (ji57) < (l0.length : Int) := of_decide_eq_true (by first | (with_reducible assumption) | assumption); obtain ⟨ad291, e291, hx291_0, hx291_1⟩ := at_T34 HR0.out (ji57) p291 q291; obtain rfl : ad272 = ad291 := (by injection e291); replace p291 := eq_true p291; replace q291 := eq_true q291; have p292 : 0 ≤ ((ji57) : Int) := of_decide_eq_true (by first | (with_reducible assumption) | assumption); have q292 : (ji57) < (l0.length : Int) := of_decide_eq_true (by first | (with_reducible assumption) | assumption); obtain ⟨ad292, e292, hx292_0, hx292_1⟩ := at_T34 HR0.out (ji57) p292 q292; obtain rfl : ad272 = ad292 := (by injection e292); replace p292 := eq_true p292; replace q292 := eq_true q292))
                    go_ret
                    exact ⟨by first | rfl | (simp; done) | (simp only [← hji2, ← hji33, ← hji57] <;> (first | rfl | simp)) | (simp [*]; done), by repeat (first | exact Drawn0.refl _ | apply Drawn0.step)⟩
                   ·rw [if_neg c69] at H
                    exact absurd H (by simp)
                  ·rw [if_neg c68] at H
                   exact absurd H (by simp)
                 ·rw [if_neg c67] at H
                  exact absurd H (by simp)
                ·rw [if_neg c66] at H
                 have c66b0 : (((rd_T34 l0 (ji57)).f0) == 2) = false := beq_eq_false_iff_ne.mpr c66
                 have c66b1 : (((rd_T34 l0 (ji57)).f0) != 2) = true := bne_iff_ne.mpr c66
                 by_cases c72 : t280.size + t285.size ≤ 9223372036854775807
                 ·rw [if_pos c72] at H
                  have c72b0 := eq_true c72
                  have c72b1 : decide (t280.size + t285.size ≤ 9223372036854775807) = true := decide_eq_true c72
                  try have c72b2 : (9223372036854775807 < t280.size + t285.size) = False := eq_false (Nat.not_lt.2 c72)
                  obtain rfl := Option.some.inj H
                  have p272 : 0 ≤ ((ji2) : Int) := of_decide_eq_true (by first | (with_reducible assumption) | assumption)
                  have q272 : (ji2) < (l0.length : Int) := of_decide_eq_true (by first | (with_reducible assumption) | assumption)
                  obtain ⟨ad272, e272, hx272_0, hx272_1⟩ := at_T34 HR0.out (ji2) p272 q272
                  cases e272
                  replace p272 := eq_true p272
                  replace q272 := eq_true q272
                  go_enter Try.func53, Try.ntmps53
                  go_wp2_with (first | (go_at_call 65; (with_reducible refine (spec_l9Starts.calls k _ _ l0 ji57 t275 _ ?side1 ?side2 A10.out).mono ?_); (case side1 => repeat (first | exact HR0.out | (with_reducible refine Kd.C_alloc ?_ _) | (with_reducible refine Kd.C_drewN ?_ _) | (with_reducible refine Kd.C_drew ?_))); (case side2 => exact HC0.out); rintro e w' ⟨rfl, ⟨nd, rfl⟩⟩; (try first | exact ⟨rfl, _, World.drewN_drewN _ _ _⟩ | exact ⟨rfl, _, Eq.trans (World.drewN_drewN _ _ _) (congrArg (World.drewN _) (Nat.add_assoc _ _ _))⟩); have q73 : (t275 : Int) ≤ ((l0.length : Int) : Int) := of_decide_eq_true (by first | (with_reducible assumption) | assumption); obtain ⟨i073, hi073, _, hsz73, _⟩ := info_parts info34; have hroom73 : l0.length ≤ c0 := HC0.out; have hC73 : Kd.C k34 _ (some ad272) l0.length l0 := HR0.out; have hcut73 := cut_to (P := Try.prog) 25 34 .i64 Try.underlying25 hi073 (some ad272) l0.length c0 t275 (of_decide_eq_true (by first | (with_reducible assumption) | assumption)) q73 hroom73; have hr73 := Kd.C_take (m := (t275 : Int).toNat) hC73 (by omega); have hy73 : y276.length = (t275 : Int).toNat := (by rw [Ny276.out, List.length_take]; omega); rw [← Ny276.out] at hr73; rw [← hy73] at hcut73; have HR279 := Aside0.mk hr73; have HC279 := Aside0.mk (show y276.length ≤ c0 from by omega); clear hr73 hC73 hroom73 hi073 hsz73; have KY73 := Aside0.mk hy73; clear hy73; replace q73 := eq_true q73) | (go_at_call 53; (with_reducible refine (ih k (by omega) _ _ y276 t280 _ ?side1 ?side2 A13.out).mono ?_); (case side1 => repeat (first | exact HR279.out | (with_reducible refine Kd.C_alloc ?_ _) | (with_reducible refine Kd.C_drewN ?_ _) | (with_reducible refine Kd.C_drew ?_))); (case side2 => exact HC279.out); rintro e w' ⟨rfl, ⟨nd, rfl⟩⟩; (try first | exact ⟨rfl, _, World.drewN_drewN _ _ _⟩ | exact ⟨rfl, _, Eq.trans (World.drewN_drewN _ _ _) (congrArg (World.drewN _) (Nat.add_assoc _ _ _))⟩); have q74 : ((ji2) : Int) ≤ ((l0.length : Int) : Int) := of_decide_eq_true (by first | (with_reducible assumption) | assumption); obtain ⟨i074, hi074, _, hsz74, _⟩ := info_parts info34; have hroom74 : l0.length ≤ c0 := HC0.out; have hC74 : Kd.C k34 _ (some ad272) l0.length l0 := HR0.out; have ql74 : (t275 : Int) ≤ ((ji2) : Int) := of_decide_eq_true (by first | (with_reducible assumption) | assumption); have q074 : (0 : Int) ≤ (t275 : Int) := of_decide_eq_true (by first | (with_reducible assumption) | assumption); have hcut74 := cut_mid (P := Try.prog) 25 34 .i64 .i64 Try.underlying25 hi074 2 hsz74 (some ad272) l0.length c0 t275 (ji2) q074 ql74 q74 hroom74; have hr74 := Kd.C_mid (lo := (t275 : Int).toNat) (hi := ((ji2) : Int).toNat) (c := c0) hC74 (by omega) (by omega) hroom74; obtain ⟨A74, hA74⟩ : ∃ A1, A1 = (if c0 = (t275 : Int).toNat then (some ad272) else ((some ad272) : Option Addr).map (·.add ((t275 : Int).toNat * 2))) := ⟨_, rfl⟩; obtain ⟨c74, hc74⟩ : ∃ c1, c1 = c0 - (t275 : Int).toNat := ⟨_, rfl⟩; have hy74 : y281.length = ((ji2) : Int).toNat - (t275 : Int).toNat := (by rw [Ny281.out, List.length_drop, List.length_take] <;> omega); rw [show ((l0).take ((ji2) : Int).toNat).drop (t275 : Int).toNat = y281 from Ny281.out.symm] at hr74; replace hr74 : Kd.C k34 _ A74 y281.length y281 := (by rw [hA74]; exact hr74); rw [← hy74, ← hA74, ← hc74] at hcut74; have HR284 := Aside0.mk hr74; have HC284 := Aside0.mk (show y281.length ≤ c74 from by rw [hy74, hc74]; exact Nat.sub_le_sub_right (Nat.le_trans (by omega) hroom74) _); clear hr74 hC74 hroom74 hi074 hsz74 hc74; have KY74 := Aside0.mk hy74; have KA74 := Aside0.mk hA74; clear hy74 hA74; replace q74 := eq_true q74) | (go_at_call 53; (with_reducible refine (ih k (by omega) _ _ y281 t285 _ ?side1 ?side2 A17.out).mono ?_); (case side1 => repeat (first | exact HR284.out | (with_reducible refine Kd.C_alloc ?_ _) | (with_reducible refine Kd.C_drewN ?_ _) | (with_reducible refine Kd.C_drew ?_))); (case side2 => exact HC284.out); rintro e w' ⟨rfl, ⟨nd, rfl⟩⟩; (try first | exact ⟨rfl, _, World.drewN_drewN _ _ _⟩ | exact ⟨rfl, _, Eq.trans (World.drewN_drewN _ _ _) (congrArg (World.drewN _) (Nat.add_assoc _ _ _))⟩); have p286 : 0 ≤ ((ji2) : Int) := of_decide_eq_true (by first | (with_reducible assumption) | assumption); have q286 : (ji2) < (l0.length : Int) := of_decide_eq_true (by first | (with_reducible assumption) | assumption); obtain ⟨ad286, e286, hx286_0, hx286_1⟩ := at_T34 HR0.out (ji2) p286 q286; obtain rfl : ad272 = ad286 := (by injection e286); replace p286 := eq_true p286; replace q286 := eq_true q286; have p288 : 0 ≤ ((ji33) : Int) := of_decide_eq_true (by first | (with_reducible assumption) | assumption); have q288 : (ji33) < (l0.length : Int) := of_decide_eq_true (by first | (with_reducible assumption) | assumption); obtain ⟨ad288, e288, hx288_0, hx288_1⟩ := at_T34 HR0.out (ji33) p288 q288; obtain rfl : ad272 = ad288 := (by injection e288); replace p288 := eq_true p288; replace q288 := eq_true q288; have p291 : 0 ≤ ((ji57) : Int) := of_decide_eq_true (by first | (with_reducible assumption) | assumption); have q291 : (ji57) < (l0.length : Int) := of_decide_eq_true (by first | (with_reducible assumption) | assumption); obtain ⟨ad291, e291, hx291_0, hx291_1⟩ := at_T34 HR0.out (ji57) p291 q291; obtain rfl : ad272 = ad291 := (by injection e291); replace p291 := eq_true p291; replace q291 := eq_true q291; have p292 : 0 ≤ ((ji57) : Int) := of_decide_eq_true (by first | (with_reducible assumption) | assumption); have q292 : (ji57) < (l0.length : Int) := of_decide_eq_true (by first | (with_reducible assumption) | assumption); obtain ⟨ad292, e292, hx292_0, hx292_1⟩ := at_T34 HR0.out (ji57) p292 q292; obtain rfl : ad272 = ad292 := (by injection e292); replace p292 := eq_true p292; replace q292 := eq_true q292))
                  go_ret
                  exact ⟨by first | rfl | (simp; done) | (simp only [← hji2, ← hji33, ← hji57] <;> (first | rfl | simp)) | (simp [*]; done), by repeat (first | exact Drawn0.refl _ | apply Drawn0.step)⟩
                 ·rw [if_neg c72] at H
                  exact absurd H (by simp)
              ·rw [if_neg c59] at H
               exact absurd H (by simp)
             ·rw [if_neg c58] at H
              exact absurd H (by simp)
           ·rw [if_neg c35] at H
            exact absurd H (by simp)
          ·rw [if_neg c34] at H
           exact absurd H (by simp)
        ·rw [if_neg c16] at H
         exact absurd H (by simp)
       ·rw [if_neg c15] at H
        exact absurd H (by simp)
      ·rw [if_neg c12] at H
       exact absurd H (by simp)
     ·rw [if_neg c11] at H
      exact absurd H (by simp)
  ·rw [if_neg c4] at H
   exact absurd H (by simp)
 ·rw [if_neg c3] at H
  exact absurd H (by simp)

end Go.Proofs.Ytpnloocdeljmhaa.PFnReadTerm
