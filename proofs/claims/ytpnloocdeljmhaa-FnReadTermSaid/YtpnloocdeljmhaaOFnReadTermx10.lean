/- Walks of the functions that the law FnReadTerm reaches, written by a program of this session. No condition but those that each states. -/
import Derived.Test.YtpnloocdeljmhaaOFnReadTermx0
import Derived.Test.YtpnloocdeljmhaaOFnReadTermx3
import Derived.Test.YtpnloocdeljmhaaOFnReadTermx4
import Derived.Test.YtpnloocdeljmhaaOFnReadTermx5
import Derived.Test.YtpnloocdeljmhaaOFnReadTermx8
import Derived.Test.YtpnloocdeljmhaaOFnReadTermx9
namespace Go.Proofs.Ytpnloocdeljmhaa.PFnReadTerm
open Go.RowKit Go.Proofs.YtpnloocdeljmhaaW.PrintWords Go.Proofs.YtpnloocdeljmhaaW.PrintLast Go.Proofs.YtpnloocdeljmhaaW.PrintMore
attribute [local go_sem] max2_int min2_int max_two min_two max_three min_three max_four min_four   -- for this text's walks alone
set_option linter.unusedVariables false
set_option linter.unusedSimpArgs false

/-! ### spec_DrawReadTerm: function 42 -/
def spec_DrawReadTerm.j0 : Nat → Int → ByteArray → Bool → List Int → Int → Option (Int × ByteArray)
 | 0, _, _, _, _, _ => none
 | k + 1, x5, x6, x25, x474000, x474001 => if x25 = true then ((spec_l20Rd_pick.f k x474000 x474001 (x6.size : Int)).bind fun bt483 => (if 0 ≤ bt483.1 then (if bt483.1 ≤ (x6.size : Int) then ((some (([(⟨#[]⟩ : ByteArray), (⟨#[40]⟩ : ByteArray), (⟨#[41]⟩ : ByteArray), (⟨#[124]⟩ : ByteArray), (⟨#[46]⟩ : ByteArray), (⟨#[97]⟩ : ByteArray), (⟨#[100]⟩ : ByteArray)] : List ByteArray) : List ByteArray)).bind fun y485 => ((spec_l20Rd_pick.f k x474000 bt483.2 7).bind fun bt488 => (if 0 ≤ bt488.1 then (if bt488.1 < (y485.length : Int) then (if (x6.extract 0 (bt483.1 : Int).toNat).size + (rdOf ByteArray.empty y485 bt488.1).size ≤ 9223372036854775807 then ((spec_l20Rd_pick.f k x474000 bt488.2 2).bind fun bt491 => (if 0 ≤ (wrap64 (bt483.1 + bt491.1)) then (if (wrap64 (bt483.1 + bt491.1)) ≤ (x6.size : Int) then (if ((x6.extract 0 (bt483.1 : Int).toNat) ++ (rdOf ByteArray.empty y485 bt488.1)).size + (x6.extract ((wrap64 (bt483.1 + bt491.1)) : Int).toNat x6.size).size ≤ 9223372036854775807 then (some (x5, ((x6.extract 0 (bt483.1 : Int).toNat) ++ (rdOf ByteArray.empty y485 bt488.1)) ++ (x6.extract ((wrap64 (bt483.1 + bt491.1)) : Int).toNat x6.size))) else (none)) else (none)) else (none))) else (none)) else (none)) else (none)))) else (none)) else (none))) else (some (x5, x6))
def spec_DrawReadTerm.f (k : Nat) (l0 : List Int) : Option (Int × ByteArray) := (spec_l20Open.f l0).bind fun bt471 => ((spec_l20Rd_pick.f k bt471.1 bt471.2 3).bind fun bt474 => ((spec_l20Term.f k bt471.1 bt474.2 (wrap64 (1 + bt474.1)) 0).bind fun bt476 => ((spec_TermText.f k (wrap64 (1 + bt474.1)) bt476.1).bind fun t480 => ((spec_l20Rd_pick.f k bt471.1 bt476.2 3).bind fun bt481 => (if bt481.1 = 0 then (spec_DrawReadTerm.j0 k (wrap64 (1 + bt474.1)) t480 (decide ((t480.size : Int) > 0)) bt471.1 bt481.2) else (spec_DrawReadTerm.j0 k (wrap64 (1 + bt474.1)) t480 false bt471.1 bt481.2))))))
def spec_DrawReadTerm.T6 : Bool × List (List Nat × List Nat) := (true, [([], []), ([], []), ([], []), ([1, 2], [1, 2]), ([], []), ([], []), ([5], [5]), ([4, 6], [4, 6]), ([7], [7]), ([3, 8], [3, 8]), ([], []), ([], []), ([], []), ([12, 6], [12]), ([11, 13], [11, 13]), ([10, 14], [10, 14]), ([9, 15], [9, 15]), ([0, 13, 0], [0]), ([16, 17, 0, 1, 2, 3, 4, 5, 6, 7, 8, 9, 10, 11, 12, 13, 14, 15, 16, 17], [16])])
def spec_DrawReadTerm.B6 : List Nat := [0, 0, 0, 6, 0, 0, 32, 112, 240, 510, 0, 0, 0, 4192, 14432, 31840, 65534, 12385, 262143]
theorem spec_DrawReadTerm.tab6 : rtab .any (opsOf Try.f42 6) = spec_DrawReadTerm.T6 := by kernel_rfl
theorem spec_DrawReadTerm.bits6 : waitsOk spec_DrawReadTerm.T6.2 spec_DrawReadTerm.B6 = true := by kernel_rfl
set_option maxHeartbeats 8000000 in
set_option maxRecDepth 100000 in
theorem spec_DrawReadTerm.calls (k : Nat) (A0 : Option Addr) (c0 : Nat) (l0 : List Int) (r1 : Int) (r2 : ByteArray) (w : World) (hr0 : Kd.C (Kd.int .u8) w A0 l0.length l0) (hc0 : l0.length ≤ c0) (h : spec_DrawReadTerm.f k l0 = some (r1, r2)) :
  Calls Try.prog 42 #[.slice A0 l0.length c0] w fun e w' => e = .returned (.tuple #[.int .i64 r1, .string r2]) ∧ Below w.heap.size w w' := by
 have HR0 := Aside0.mk hr0
 have HC0 := Aside0.mk hc0
 clear hr0 hc0
 have HB := Aside0.mk (Below.refl w.heap.size w)
 have H : ((spec_l20Open.f l0).bind fun bt471 => ((spec_l20Rd_pick.f k bt471.1 bt471.2 3).bind fun bt474 => ((spec_l20Term.f k bt471.1 bt474.2 (wrap64 (1 + bt474.1)) 0).bind fun bt476 => ((spec_TermText.f k (wrap64 (1 + bt474.1)) bt476.1).bind fun t480 => ((spec_l20Rd_pick.f k bt471.1 bt476.2 3).bind fun bt481 => (if bt481.1 = 0 then (spec_DrawReadTerm.j0 k (wrap64 (1 + bt474.1)) t480 (decide ((t480.size : Int) > 0)) bt471.1 bt481.2) else (spec_DrawReadTerm.j0 k (wrap64 (1 + bt474.1)) t480 false bt471.1 bt481.2))))))) = some (r1, r2) := h
 clear h
 replace H := Option.bind_eq_some_iff.mp H
 obtain ⟨⟨t471, t472⟩, A20, H⟩ := H
 try dsimp only at H
 have A2 := Aside0.mk A20
 clear A20
 replace H := Option.bind_eq_some_iff.mp H
 obtain ⟨⟨t474, t475⟩, A30, H⟩ := H
 try dsimp only at H
 have A3 := Aside0.mk A30
 clear A30
 replace H := Option.bind_eq_some_iff.mp H
 obtain ⟨⟨t476, t479⟩, A40, H⟩ := H
 try dsimp only at H
 have A4 := Aside0.mk A40
 clear A40
 replace H := Option.bind_eq_some_iff.mp H
 obtain ⟨t480, A50, H⟩ := H
 try dsimp only at H
 have A5 := Aside0.mk A50
 clear A50
 have HC6 := Aside0.mk H
 clear H
 go_enter Try.func42, Try.ntmps42
 go_upto_region 4 with (first | ((with_reducible refine gate_callee (f := 48) rfl ?_); refine goesL_ (some 9) rfl rfl Try.func48 (by kernel_rfl) rfl #[.slice A0 l0.length c0] rfl (by (try simp only [List.map_toArray, List.map_cons, List.map_nil]); first | done | rfl | (simp only [List.length_drop, List.length_take]; rfl)) ?_; (with_reducible refine (spec_l20Open.calls _ _ l0 t471 t472 w _ ?side1 ?side2 ?side3 A2.out).mono ?_); (case side1 => repeat (first | (with_reducible first | exact HB.out | apply below_alloc | apply pw_below_drewN | apply below_drew1) | exact HB.out)); (case side2 => exact HR0.out); (case side3 => exact HC0.out); rintro e w7 ⟨g473, rfl, hi, hb, hb2⟩; refine ⟨_, rfl, ?_⟩; have n0_ := Aside0.mk (hb); have n1_ := Aside0.mk (hi); clear HB; have HB := n0_; have HI473 := n1_; clear n0_ n1_) | ((with_reducible refine gate_callee (f := 60) rfl ?_); refine goesL_ (some 11) rfl rfl Try.func60 (by kernel_rfl) rfl #[.pointer (some ⟨g473, 0, none⟩), .int .i64 3] rfl (by (try simp only [List.map_toArray, List.map_cons, List.map_nil]); first | done | rfl | (simp only [List.length_drop, List.length_take]; rfl)) ?_; (with_reducible refine (spec_l20Rd_pick.calls k g473 t471 t472 3 t474 t475 w _ ?side1 ?side2 A3.out).mono ?_); (case side1 => repeat (first | (with_reducible first | exact HI473.out | apply IsS74.alloc | apply IsS74.drewN | apply IsS74.drew | apply IsS74.set_1) | exact HI473.out)); (case side2 => repeat (first | (with_reducible first | exact HB.out | apply below_alloc | apply pw_below_drewN | apply below_drew1 | refine below_set ?_ (IsS74.ge HI473.out)) | exact HB.out)); rintro e w8 ⟨rfl, hi, hb, hk⟩; refine ⟨_, rfl, ?_⟩; have n0_ := Aside0.mk (hb); have n1_ := Aside0.mk (hi); clear HB; clear HI473; have HB := n0_; have HI473 := n1_; clear n0_ n1_) | ((with_reducible refine gate_callee (f := 62) rfl ?_); refine goesL_ (some 16) rfl rfl Try.func62 (by kernel_rfl) rfl #[.pointer (some ⟨g473, 0, none⟩), .int .i64 (wrap64 (1 + t474)), .int .i64 0] rfl (by (try simp only [List.map_toArray, List.map_cons, List.map_nil]); first | done | rfl | (simp only [List.length_drop, List.length_take]; rfl)) ?_; (with_reducible refine (spec_l20Term.calls k g473 t471 t475 (wrap64 (1 + t474)) 0 t476 t479 w _ ?side1 ?side2 A4.out).mono ?_); (case side1 => repeat (first | (with_reducible first | exact HI473.out | apply IsS74.alloc | apply IsS74.drewN | apply IsS74.drew | apply IsS74.set_1) | exact HI473.out)); (case side2 => repeat (first | (with_reducible first | exact HB.out | apply below_alloc | apply pw_below_drewN | apply below_drew1 | refine below_set ?_ (IsS74.ge HI473.out)) | exact HB.out)); rintro e w9 ⟨v477, rfl, ho0, hi, hb, hk⟩; refine ⟨_, rfl, ?_⟩; have n0_ := Aside0.mk (Kd.R_lower ho0 (below_size (by repeat (first | (with_reducible first | exact HB.out | apply below_alloc | apply pw_below_drewN | apply below_drew1 | refine below_set ?_ (IsS74.ge HI473.out)) | exact HB.out)))); have n1_ := Aside0.mk (hb); have n2_ := Aside0.mk (hi); clear HB; clear HI473; have HO478 := n0_; have HB := n1_; have HI473 := n2_; clear n0_ n1_ n2_; (try clear ho0); obtain ⟨Ao10, co10, eo10⟩ := Kd.R_slice HO478.out; subst eo10) | ((with_reducible refine gate_callee (f := 26) rfl ?_); refine goesL_ (some 17) rfl rfl Try.func26 (by kernel_rfl) rfl #[.int .i64 (wrap64 (1 + t474)), .slice Ao10 t476.length co10] rfl (by (try simp only [List.map_toArray, List.map_cons, List.map_nil]); first | done | rfl | (simp only [List.length_drop, List.length_take]; rfl)) ?_; (with_reducible refine (spec_TermText.calls k (wrap64 (1 + t474)) _ _ t476 t480 _ ?side1 ?side2 A5.out).mono ?_); (case side1 => repeat (first | exact (Kd.R_reads' HO478.out).2.2 | (with_reducible refine Kd.C_alloc ?_ _) | (with_reducible refine Kd.C_drewN ?_ _) | (with_reducible refine Kd.C_drew ?_))); (case side2 => exact (Kd.R_reads' HO478.out).2.1); rintro e w11 ⟨rfl, hb⟩; refine ⟨_, rfl, ?_⟩; have n0_ := Aside0.mk (Kd.R_below (by exact HO478.out) hb); have n1_ := Aside0.mk (IsS74.below (by repeat (first | (with_reducible first | exact HI473.out | apply IsS74.alloc | apply IsS74.drewN | apply IsS74.drew | apply IsS74.set_1) | exact HI473.out)) hb); have n2_ := Aside0.mk (below_step (by repeat (first | (with_reducible first | exact HB.out | apply below_alloc | apply pw_below_drewN | apply below_drew1 | refine below_set ?_ (IsS74.ge HI473.out)) | exact HB.out)) hb); clear HO478; clear HI473; clear HB; have HO478 := n0_; have HI473 := n1_; have HB := n2_; clear n0_ n1_ n2_))
 (try simp only [Act.put, List.setIfInBounds_toArray, List.set_cons_zero, List.set_cons_succ])
 go_cut [25] (fun v25 wc => ∃ (kq : Nat) (x25_5 : Bool) (x474001_5 : Int), v25 = .bool x25_5 ∧ Aside0 (spec_DrawReadTerm.j0 kq (wrap64 (1 + t474)) t480 x25_5 t471 x474001_5 = some (r1, r2)) ∧ Aside0 (kq ≤ k) ∧ Aside0 (IsS74 w wc g473 t471 x474001_5) ∧ Aside0 (Below w.heap.size w wc))
 case first =>
  have H := HC6.out
  clear HC6
  replace H := Option.bind_eq_some_iff.mp H
  obtain ⟨⟨t481, t482⟩, A120, H⟩ := H
  try dsimp only at H
  have A12 := Aside0.mk A120
  clear A120
  by_cases c13 : t481 = 0
  ·rw [if_pos c13] at H
   have c13b0 : (t481 == 0) = true := beq_iff_eq.mpr c13
   have c13b1 : (t481 != 0) = false := bne_eq_false_iff_eq.mpr c13
   clear c13
   (first | rw [c13b0] | (simp only [i64_w, i32_w]; rw [c13b0]) | skip)
   have H' := Aside0.mk H
   clear H
   go_wp2_with (first | ((with_reducible refine gate_callee (f := 60) rfl ?_); refine goesL_ (some 19) rfl rfl Try.func60 (by kernel_rfl) rfl #[.pointer (some ⟨g473, 0, none⟩), .int .i64 3] rfl (by (try simp only [List.map_toArray, List.map_cons, List.map_nil]); first | done | rfl | (simp only [List.length_drop, List.length_take]; rfl)) ?_; (with_reducible refine (spec_l20Rd_pick.calls k g473 t471 t479 3 t481 t482 w _ ?side1 ?side2 A12.out).mono ?_); (case side1 => repeat (first | (with_reducible first | exact HI473.out | apply IsS74.alloc | apply IsS74.drewN | apply IsS74.drew | apply IsS74.set_1) | exact HI473.out)); (case side2 => repeat (first | (with_reducible first | exact HB.out | apply below_alloc | apply pw_below_drewN | apply below_drew1 | refine below_set ?_ (IsS74.ge HI473.out)) | exact HB.out)); rintro e w14 ⟨rfl, hi, hb, hk⟩; refine ⟨_, rfl, ?_⟩; have n0_ := Aside0.mk (Kd.R_mono (Kd.R_keep (IsS74.apart (show IsS74 w _ g473 t471 t479 from by repeat (first | (with_reducible first | exact HI473.out | apply IsS74.alloc | apply IsS74.drewN | apply IsS74.drew | apply IsS74.set_1) | exact HI473.out)) (by exact HO478.out) (by decide)) hk (fun _ h => h.2)) (fun _ h => h.1)); have n1_ := Aside0.mk (hb); have n2_ := Aside0.mk (hi); clear HO478; clear HB; clear HI473; have HO478 := n0_; have HB := n1_; have HI473 := n2_; clear n0_ n1_ n2_))
   go_meet
   case rel => exact ⟨_, (decide ((t480.size : Int) > 0)), (t482), (by first | rfl | (simp; done) | (simp [*]; done)), H', ⟨by first | omega | exact Nat.le_refl _⟩, ⟨by repeat (first | (with_reducible first | exact HI473.out | apply IsS74.alloc | apply IsS74.drewN | apply IsS74.drew | apply IsS74.set_1) | exact HI473.out)⟩, ⟨by repeat (first | (with_reducible first | exact HB.out | apply below_alloc | apply pw_below_drewN | apply below_drew1 | refine below_set ?_ (IsS74.ge HI473.out)) | exact HB.out)⟩⟩
  ·rw [if_neg c13] at H
   have c13b0 : (t481 == 0) = false := beq_eq_false_iff_ne.mpr c13
   have c13b1 : (t481 != 0) = true := bne_iff_ne.mpr c13
   (first | rw [c13b0] | (simp only [i64_w, i32_w]; rw [c13b0]) | skip)
   have H' := Aside0.mk H
   clear H
   go_wp2_with (first | ((with_reducible refine gate_callee (f := 60) rfl ?_); refine goesL_ (some 19) rfl rfl Try.func60 (by kernel_rfl) rfl #[.pointer (some ⟨g473, 0, none⟩), .int .i64 3] rfl (by (try simp only [List.map_toArray, List.map_cons, List.map_nil]); first | done | rfl | (simp only [List.length_drop, List.length_take]; rfl)) ?_; (with_reducible refine (spec_l20Rd_pick.calls k g473 t471 t479 3 t481 t482 w _ ?side1 ?side2 A12.out).mono ?_); (case side1 => repeat (first | (with_reducible first | exact HI473.out | apply IsS74.alloc | apply IsS74.drewN | apply IsS74.drew | apply IsS74.set_1) | exact HI473.out)); (case side2 => repeat (first | (with_reducible first | exact HB.out | apply below_alloc | apply pw_below_drewN | apply below_drew1 | refine below_set ?_ (IsS74.ge HI473.out)) | exact HB.out)); rintro e w15 ⟨rfl, hi, hb, hk⟩; refine ⟨_, rfl, ?_⟩; have n0_ := Aside0.mk (Kd.R_mono (Kd.R_keep (IsS74.apart (show IsS74 w _ g473 t471 t479 from by repeat (first | (with_reducible first | exact HI473.out | apply IsS74.alloc | apply IsS74.drewN | apply IsS74.drew | apply IsS74.set_1) | exact HI473.out)) (by exact HO478.out) (by decide)) hk (fun _ h => h.2)) (fun _ h => h.1)); have n1_ := Aside0.mk (hb); have n2_ := Aside0.mk (hi); clear HO478; clear HB; clear HI473; have HO478 := n0_; have HB := n1_; have HI473 := n2_; clear n0_ n1_ n2_))
   go_meet
   case rel => exact ⟨_, (false), (t482), (by first | rfl | (simp; done) | (simp [*]; done)), H', ⟨by first | omega | exact Nat.le_refl _⟩, ⟨by repeat (first | (with_reducible first | exact HI473.out | apply IsS74.alloc | apply IsS74.drewN | apply IsS74.drew | apply IsS74.set_1) | exact HI473.out)⟩, ⟨by repeat (first | (with_reducible first | exact HB.out | apply below_alloc | apply pw_below_drewN | apply below_drew1 | refine below_set ?_ (IsS74.ge HI473.out)) | exact HB.out)⟩⟩
 case rest =>
  clear HC6
  try clear c1
  try clear c2
  try clear p2
  try clear c4
  try clear c6
  try clear p6
  try clear c13
  try clear c13b0
  try clear c13b1
  obtain ⟨kq, x25_5, x474001_5, rfl, HA, HJ5, HI473, HB⟩ := hcut
  cases kq with
  | zero => exact absurd HA.out (by simp [spec_DrawReadTerm.j0])
  | succ kj5 =>
   have H := HA.out
   clear HA
   simp only [spec_DrawReadTerm.j0] at H
   by_cases c16 : x25_5 = true
   ·subst c16
    have H1 : ((spec_l20Rd_pick.f kj5 t471 x474001_5 (t480.size : Int)).bind fun bt483 => (if 0 ≤ bt483.1 then (if bt483.1 ≤ (t480.size : Int) then ((some (([(⟨#[]⟩ : ByteArray), (⟨#[40]⟩ : ByteArray), (⟨#[41]⟩ : ByteArray), (⟨#[124]⟩ : ByteArray), (⟨#[46]⟩ : ByteArray), (⟨#[97]⟩ : ByteArray), (⟨#[100]⟩ : ByteArray)] : List ByteArray) : List ByteArray)).bind fun y485 => ((spec_l20Rd_pick.f kj5 t471 bt483.2 7).bind fun bt488 => (if 0 ≤ bt488.1 then (if bt488.1 < (y485.length : Int) then (if (t480.extract 0 (bt483.1 : Int).toNat).size + (rdOf ByteArray.empty y485 bt488.1).size ≤ 9223372036854775807 then ((spec_l20Rd_pick.f kj5 t471 bt488.2 2).bind fun bt491 => (if 0 ≤ (wrap64 (bt483.1 + bt491.1)) then (if (wrap64 (bt483.1 + bt491.1)) ≤ (t480.size : Int) then (if ((t480.extract 0 (bt483.1 : Int).toNat) ++ (rdOf ByteArray.empty y485 bt488.1)).size + (t480.extract ((wrap64 (bt483.1 + bt491.1)) : Int).toNat t480.size).size ≤ 9223372036854775807 then (some ((wrap64 (1 + t474)), ((t480.extract 0 (bt483.1 : Int).toNat) ++ (rdOf ByteArray.empty y485 bt488.1)) ++ (t480.extract ((wrap64 (bt483.1 + bt491.1)) : Int).toNat t480.size))) else (none)) else (none)) else (none))) else (none)) else (none)) else (none)))) else (none)) else (none))) = some (r1, r2) := by rw [if_pos rfl] at H; exact H
    clear H
    have H := H1
    clear H1
    replace H := Option.bind_eq_some_iff.mp H
    obtain ⟨⟨t483, t484⟩, A170, H⟩ := H
    try dsimp only at H
    have A17 := Aside0.mk A170
    clear A170
    by_cases c18 : 0 ≤ t483
    ·rw [if_pos c18] at H
     have c18b0 := eq_true c18
     have c18b1 : decide (0 ≤ t483) = true := decide_eq_true c18
     clear c18
     by_cases c19 : t483 ≤ (t480.size : Int)
     ·rw [if_pos c19] at H
      have c19b0 := eq_true c19
      have c19b1 : decide (t483 ≤ (t480.size : Int)) = true := decide_eq_true c19
      clear c19
      obtain ⟨y485, hy485⟩ : ∃ y_ : List ByteArray, y_ = (([(⟨#[]⟩ : ByteArray), (⟨#[40]⟩ : ByteArray), (⟨#[41]⟩ : ByteArray), (⟨#[124]⟩ : ByteArray), (⟨#[46]⟩ : ByteArray), (⟨#[97]⟩ : ByteArray), (⟨#[100]⟩ : ByteArray)] : List ByteArray)) := ⟨_, rfl⟩
      replace H : ((spec_l20Rd_pick.f kj5 t471 t484 7).bind fun bt488 => (if 0 ≤ bt488.1 then (if bt488.1 < (y485.length : Int) then (if (t480.extract 0 (t483 : Int).toNat).size + (rdOf ByteArray.empty y485 bt488.1).size ≤ 9223372036854775807 then ((spec_l20Rd_pick.f kj5 t471 bt488.2 2).bind fun bt491 => (if 0 ≤ (wrap64 (t483 + bt491.1)) then (if (wrap64 (t483 + bt491.1)) ≤ (t480.size : Int) then (if ((t480.extract 0 (t483 : Int).toNat) ++ (rdOf ByteArray.empty y485 bt488.1)).size + (t480.extract ((wrap64 (t483 + bt491.1)) : Int).toNat t480.size).size ≤ 9223372036854775807 then (some ((wrap64 (1 + t474)), ((t480.extract 0 (t483 : Int).toNat) ++ (rdOf ByteArray.empty y485 bt488.1)) ++ (t480.extract ((wrap64 (t483 + bt491.1)) : Int).toNat t480.size))) else (none)) else (none)) else (none))) else (none)) else (none)) else (none))) = some (r1, r2) := by first | (rw [hy485]; with_reducible exact H) | (have H2_ := (Option.bind_some _ _).symm.trans H; rw [hy485]; with_reducible exact H2_) | (have H2_ := (Option.bind_some _ _).symm.trans H; with_reducible exact H2_) | with_reducible exact H | (rw [hy485]; exact H) | exact H
      have Ny485 := Aside0.mk hy485
      clear hy485
      replace H := Option.bind_eq_some_iff.mp H
      obtain ⟨⟨t488, t489⟩, A200, H⟩ := H
      try dsimp only at H
      have A20 := Aside0.mk A200
      clear A200
      by_cases c21 : 0 ≤ t488
      ·rw [if_pos c21] at H
       have c21b0 : decide (0 ≤ t488) = true := decide_eq_true c21
       clear c21
       by_cases c22 : t488 < (y485.length : Int)
       ·rw [if_pos c22] at H
        have c22b0 : decide (t488 < (y485.length : Int)) = true := decide_eq_true c22
        clear c22
        by_cases c23 : (t480.extract 0 (t483 : Int).toNat).size + (rdOf ByteArray.empty y485 t488).size ≤ 9223372036854775807
        ·rw [if_pos c23] at H
         have c23b0 := eq_true c23
         have c23b1 : decide ((t480.extract 0 (t483 : Int).toNat).size + (rdOf ByteArray.empty y485 t488).size ≤ 9223372036854775807) = true := decide_eq_true c23
         try have c23b2 : (9223372036854775807 < (t480.extract 0 (t483 : Int).toNat).size + (rdOf ByteArray.empty y485 t488).size) = False := eq_false (Nat.not_lt.2 c23)
         replace H := Option.bind_eq_some_iff.mp H
         obtain ⟨⟨t491, t492⟩, A240, H⟩ := H
         try dsimp only at H
         have A24 := Aside0.mk A240
         clear A240
         obtain ⟨ji25, hji25⟩ : ∃ j_ : Int, (wrap64 (t483 + t491)) = j_ := ⟨_, rfl⟩
         replace H : (if 0 ≤ (ji25) then (if (ji25) ≤ (t480.size : Int) then (if ((t480.extract 0 (t483 : Int).toNat) ++ (rdOf ByteArray.empty y485 t488)).size + (t480.extract ((ji25) : Int).toNat t480.size).size ≤ 9223372036854775807 then (some ((wrap64 (1 + t474)), ((t480.extract 0 (t483 : Int).toNat) ++ (rdOf ByteArray.empty y485 t488)) ++ (t480.extract ((ji25) : Int).toNat t480.size))) else (none)) else (none)) else (none)) = some (r1, r2) := by first | (rw [hji25] at H; exact H) | (simp only [hji25] at H ⊢; exact H)
         (try rw [hji25] at A17)
         (try rw [hji25] at A20)
         (try rw [hji25] at A24)
         have hji25w : (IntKind.i64.wrap (t483 + t491)) = ji25 := (i64_w _).trans hji25
         by_cases c26 : 0 ≤ (ji25)
         ·rw [if_pos c26] at H
          have c26b0 := eq_true c26
          have c26b1 : decide (0 ≤ (ji25)) = true := decide_eq_true c26
          clear c26
          by_cases c27 : (ji25) ≤ (t480.size : Int)
          ·rw [if_pos c27] at H
           have c27b0 := eq_true c27
           have c27b1 : decide ((ji25) ≤ (t480.size : Int)) = true := decide_eq_true c27
           clear c27
           by_cases c28 : ((t480.extract 0 (t483 : Int).toNat) ++ (rdOf ByteArray.empty y485 t488)).size + (t480.extract ((ji25) : Int).toNat t480.size).size ≤ 9223372036854775807
           ·rw [if_pos c28] at H
            have c28b0 := eq_true c28
            have c28b1 : decide (((t480.extract 0 (t483 : Int).toNat) ++ (rdOf ByteArray.empty y485 t488)).size + (t480.extract ((ji25) : Int).toNat t480.size).size ≤ 9223372036854775807) = true := decide_eq_true c28
            try have c28b2 : (9223372036854775807 < ((t480.extract 0 (t483 : Int).toNat) ++ (rdOf ByteArray.empty y485 t488)).size + (t480.extract ((ji25) : Int).toNat t480.size).size) = False := eq_false (Nat.not_lt.2 c28)
            have c28b3 : (9223372036854775807 < ((t480.extract 0 (t483 : Int).toNat) ++ (rdOf ByteArray.empty y485 t488)).size + (t480.extract ((ji25) : Int).toNat t480.size).size) = False := eq_false (by have h_ := c28; simp only [ByteArray.size_append] at h_; omega)
            simp only [Option.some.injEq, Prod.mk.injEq] at H
            obtain ⟨rfl, rfl⟩ := H
            try go_wp2_with (first | ((with_reducible refine gate_callee (f := 60) rfl ?_); refine goesL_ (some 29) rfl rfl Try.func60 (by kernel_rfl) rfl #[.pointer (some ⟨g473, 0, none⟩), .int .i64 (t480.size : Int)] rfl (by (try simp only [List.map_toArray, List.map_cons, List.map_nil]); first | done | rfl | (simp only [List.length_drop, List.length_take]; rfl)) ?_; (with_reducible refine (spec_l20Rd_pick.calls kj5 g473 t471 x474001_5 (t480.size : Int) t483 t484 w _ ?side1 ?side2 A17.out).mono ?_); (case side1 => repeat (first | (with_reducible first | exact HI473.out | apply IsS74.alloc | apply IsS74.drewN | apply IsS74.drew | apply IsS74.set_1) | exact HI473.out)); (case side2 => repeat (first | (with_reducible first | exact HB.out | apply below_alloc | apply pw_below_drewN | apply below_drew1 | refine below_set ?_ (IsS74.ge HI473.out)) | exact HB.out)); rintro e w29 ⟨rfl, hi, hb, hk⟩; refine ⟨_, rfl, ?_⟩; have n0_ := Aside0.mk (hb); have n1_ := Aside0.mk (hi); clear HB; clear HI473; have HB := n0_; have HI473 := n1_; clear n0_ n1_))
            have pi490 : (0 ≤ (t488 : Int)) = True := eq_true (of_decide_eq_true (by assumption))
            have qi490 : (t488 < (y485.length : Int)) = True := eq_true (of_decide_eq_true (by assumption))
            have n0_ := Aside0.mk (IsS74.drew HI473.out)
            have n1_ := Aside0.mk (below_drew1 HB.out)
            clear HI473
            clear HB
            have HI473 := n0_
            have HB := n1_
            clear n0_ n1_
            refine start_ (n := 19) (S := fun w' => True) (ds := []) #[false, false, false, false, false, false, false, false, false, false, false, false, false, false, false, false, false, false, false] (by kernel_rfl) rfl rfl trivial (fun hHeld => ?_); refine with_tabW spec_DrawReadTerm.tab6 spec_DrawReadTerm.bits6 (fun HT_ HW_ => ?_)
            generalize w29.drew = w30 at HI473 HB hHeld ⊢
            refine pure_ (i := 0) (N := some 30) (v := ?_) (a' := ?_) #[true, false, false, false, false, false, false, false, false, false, false, false, false, false, false, false, false, false, false] rfl rfl (any_of HT_.out (by kernel_rfl)) (fun _ _ _ h => h) (Or.inl ⟨by rfl, ?_⟩) ?_ ?_
            rotate_left
            ·intro w'
             go_simp
             with_reducible rfl
            rotate_left
            ·simp only [Act.put, List.setIfInBounds_toArray, List.set_cons_zero, List.set_cons_succ, i64_w, i32_w]
             rfl
            refine pure_ (i := 1) (N := some 31) (v := ?_) (a' := ?_) #[true, true, false, false, false, false, false, false, false, false, false, false, false, false, false, false, false, false, false] rfl rfl (any_of HT_.out (by kernel_rfl)) (fun _ _ _ h => h) (Or.inl ⟨by rfl, ?_⟩) ?_ ?_
            rotate_left
            ·intro w'
             go_simp
             with_reducible rfl
            rotate_left
            ·simp only [Act.put, List.setIfInBounds_toArray, List.set_cons_zero, List.set_cons_succ, i64_w, i32_w]
             rfl
            refine pure_ (i := 2) (N := some 32) (v := ?_) (a' := ?_) #[true, true, true, false, false, false, false, false, false, false, false, false, false, false, false, false, false, false, false] rfl rfl (any_of HT_.out (by kernel_rfl)) (fun _ _ _ h => h) (Or.inl ⟨by rfl, ?_⟩) ?_ ?_
            rotate_left
            ·intro w'
             go_simp
             with_reducible rfl
            rotate_left
            ·simp only [Act.put, List.setIfInBounds_toArray, List.set_cons_zero, List.set_cons_succ, i64_w, i32_w]
             rfl
            refine pure_ (i := 5) (N := some 35) (v := ?_) (a' := ?_) #[true, true, true, false, false, true, false, false, false, false, false, false, false, false, false, false, false, false, false] rfl rfl (any_of HT_.out (by kernel_rfl)) (fun _ _ _ h => h) (Or.inl ⟨by rfl, ?_⟩) ?_ ?_
            rotate_left
            ·intro w'
             go_simp
             with_reducible rfl
            rotate_left
            ·simp only [Act.put, List.setIfInBounds_toArray, List.set_cons_zero, List.set_cons_succ, i64_w, i32_w]
             rfl
            refine pure_ (i := 10) (N := some 40) (v := ?_) (a' := ?_) #[true, true, true, false, false, true, false, false, false, false, true, false, false, false, false, false, false, false, false] rfl rfl (any_of HT_.out (by kernel_rfl)) (fun _ _ _ h => h) (Or.inl ⟨by rfl, ?_⟩) ?_ ?_
            rotate_left
            ·intro w'
             go_simp
             with_reducible rfl
            rotate_left
            ·simp only [Act.put, List.setIfInBounds_toArray, List.set_cons_zero, List.set_cons_succ, i64_w, i32_w]
             rfl
            refine pure_ (i := 11) (N := some 41) (v := ?_) (a' := ?_) #[true, true, true, false, false, true, false, false, false, false, true, true, false, false, false, false, false, false, false] rfl rfl (any_of HT_.out (by kernel_rfl)) (fun _ _ _ h => h) (Or.inl ⟨by rfl, ?_⟩) ?_ ?_
            rotate_left
            ·intro w'
             go_simp
             with_reducible rfl
            rotate_left
            ·simp only [Act.put, List.setIfInBounds_toArray, List.set_cons_zero, List.set_cons_succ, i64_w, i32_w]
             rfl
            refine pure_ (i := 12) (N := some 42) (v := ?_) (a' := ?_) #[true, true, true, false, false, true, false, false, false, false, true, true, true, false, false, false, false, false, false] rfl rfl (any_of HT_.out (by kernel_rfl)) (fun _ _ _ h => h) (Or.inl ⟨by rfl, ?_⟩) ?_ ?_
            rotate_left
            ·intro w'
             go_simp
             with_reducible rfl
            rotate_left
            ·simp only [Act.put, List.setIfInBounds_toArray, List.set_cons_zero, List.set_cons_succ, i64_w, i32_w]
             rfl
            refine inv_at [3, 4, 6, 7, 8, 9, 13, 14, 15, 16, 17, 18] (fun a0_ b a w' => ∃ (v486 : Value) (adz_v486 : Addr) (m7_ : Value), a = putSel a0_ b [(3, 33, .string (t480.extract 0 (t483 : Int).toNat)), (4, 34, v486), (6, 36, .int .i64 t488), (7, 37, m7_), (8, 38, .string (rdOf ByteArray.empty y485 t488)), (9, 39, .string ((t480.extract 0 (t483 : Int).toNat) ++ (rdOf ByteArray.empty y485 t488))), (13, 43, .int .i64 t491), (14, 44, .int .i64 ji25), (15, 45, .string (t480.extract ((ji25) : Int).toNat t480.size)), (16, 46, .string (((t480.extract 0 (t483 : Int).toNat) ++ (rdOf ByteArray.empty y485 t488)) ++ (t480.extract ((ji25) : Int).toNat t480.size))), (17, 2, .int .i64 (wrap64 (1 + t474))), (18, 3, .string (((t480.extract 0 (t483 : Int).toNat) ++ (rdOf ByteArray.empty y485 t488)) ++ (t480.extract ((ji25) : Int).toNat t480.size)))] ∧ (b 6 = false → IsS74 w w' g473 t471 t484) ∧ (Below w.heap.size w w') ∧ (b 4 = true → Kd.R Kd.string 9 w' w.heap.size (fun _ => True) v486 y485) ∧ (b 4 = true → ∃ c_, (v486 : Value) = .slice (some adz_v486) y485.length c_) ∧ (b 6 = true → b 13 = false → IsS74 w w' g473 t471 t489) ∧ (b 13 = true → IsS74 w w' g473 t471 t492) ∧ (b 7 = true → (m7_ : Value) = .pointer (some (adz_v486.add (t488).toNat)))) HT_.out HW_.out (by kernel_rfl) (by kernel_rfl) ?_ ?_ ?_
            ·exact ⟨.bool false, ⟨0, 0, none⟩, .bool false, by simp only [putSel, Bool.false_eq_true, if_false], fun _ => HI473.out, HB.out, fun h_ => absurd h_ (by decide), fun h_ => absurd h_ (by decide), fun h_ => absurd h_ (by decide), fun h_ => absurd h_ (by decide), fun h_ => absurd h_ (by decide)⟩
            ·skip
             clear HB HI473
             refine steps_cons ?_ ?_
             ·rintro b a w' ⟨v486, adz_v486, m7_, ha, Q_HI473, Q_HB, Q_HO487, Q_HA_HO487, Q_HI473_e6, Q_HI473_e13, Q_X7_⟩ hb_ hon hoff
              refine ⟨_, rfl, fun K hK => ?_⟩
              have e31 : a.tmps[31]? = some (.string t480) := by rw [ha]; exact (putSel_off rfl).trans rfl
              have e32 : a.tmps[32]? = some (.int .i64 t483) := by rw [ha]; exact (putSel_off rfl).trans rfl
              replace ha := Aside0.mk ha
              have HB := Aside0.mk Q_HB
              refine value_ (w1 := w') (v := .string (t480.extract 0 (t483 : Int).toNat)) (by rfl) rfl ?_ ?_
              ·go_simp
               (try simp only [i64_w])
               try rfl
              refine hK.out _ _ ⟨v486, adz_v486, m7_, (by rw [ha.out]; exact putSel_upk 0 hb_ rfl rfl rfl), Q_HI473, Q_HB, Q_HO487, Q_HA_HO487, Q_HI473_e6, Q_HI473_e13, Q_X7_⟩
             refine steps_cons ?_ ?_
             ·rintro b a w' ⟨v486, adz_v486, m7_, ha, Q_HI473, Q_HB, Q_HO487, Q_HA_HO487, Q_HI473_e6, Q_HI473_e13, Q_X7_⟩ hb_ hon hoff
              refine ⟨_, rfl, fun K hK => ?_⟩
              replace ha := Aside0.mk ha
              have HB := Aside0.mk Q_HB
              refine Kd.R_lit_step Kd.string _ 9 ?hg (N := 34) ?hd (xs := ([(⟨#[]⟩ : ByteArray), (⟨#[40]⟩ : ByteArray), (⟨#[41]⟩ : ByteArray), (⟨#[124]⟩ : ByteArray), (⟨#[46]⟩ : ByteArray), (⟨#[97]⟩ : ByteArray), (⟨#[100]⟩ : ByteArray)] : List ByteArray)) (inner := [.string (⟨#[]⟩ : ByteArray), .string (⟨#[40]⟩ : ByteArray), .string (⟨#[41]⟩ : ByteArray), .string (⟨#[124]⟩ : ByteArray), .string (⟨#[46]⟩ : ByteArray), .string (⟨#[97]⟩ : ByteArray), .string (⟨#[100]⟩ : ByteArray)]) (ok := fun _ => True) (okp := fun _ => True) ?hr ?hp (fun _ hk => hk) trivial (Below.refl _ _) (Nat.le_refl _) (by simp) ?_; (case hd => rfl); (case hg => rfl); (case hr => first | (go_simp; done) | (go_simp; rfl)); (case hp => exact (Reps.one (show Kd.M Kd.string _ _ _ (⟨#[]⟩ : ByteArray) [.string (⟨#[]⟩ : ByteArray)] from rfl) (Reps.one (show Kd.M Kd.string _ _ _ (⟨#[40]⟩ : ByteArray) [.string (⟨#[40]⟩ : ByteArray)] from rfl) (Reps.one (show Kd.M Kd.string _ _ _ (⟨#[41]⟩ : ByteArray) [.string (⟨#[41]⟩ : ByteArray)] from rfl) (Reps.one (show Kd.M Kd.string _ _ _ (⟨#[124]⟩ : ByteArray) [.string (⟨#[124]⟩ : ByteArray)] from rfl) (Reps.one (show Kd.M Kd.string _ _ _ (⟨#[46]⟩ : ByteArray) [.string (⟨#[46]⟩ : ByteArray)] from rfl) (Reps.one (show Kd.M Kd.string _ _ _ (⟨#[97]⟩ : ByteArray) [.string (⟨#[97]⟩ : ByteArray)] from rfl) (Reps.one (show Kd.M Kd.string _ _ _ (⟨#[100]⟩ : ByteArray) [.string (⟨#[100]⟩ : ByteArray)] from rfl) (Reps.none _ _)))))))))
              intro v486 w31 ho32 hb hg_ hnew_
              clear hg_ hnew_
              (first | rw [← Ny485.out] at ho32 | (simp only [Int.reduceToNat] at ho32; rw [← Ny485.out] at ho32))
              have n0_ := Aside0.mk (Kd.R_lower ho32 (below_size (HB.out)))
              have n2_ := Aside0.mk (below_step (HB.out) hb)
              have z_HI473 := fun (h0_ : b 6 = false) => (show IsS74 w w31 g473 t471 t484 from by first | exact (IsS74.below (by repeat (first | (with_reducible first | exact (Q_HI473 h0_) | apply IsS74.alloc | apply IsS74.drewN | apply IsS74.drew | apply IsS74.set_1) | exact (Q_HI473 h0_))) hb))
              have z_HI473_e6 := fun (h0_ : b 6 = true) (h1_ : b 13 = false) => (show IsS74 w w31 g473 t471 t489 from by first | exact (IsS74.below (by repeat (first | (with_reducible first | exact (Q_HI473_e6 h0_ h1_) | apply IsS74.alloc | apply IsS74.drewN | apply IsS74.drew | apply IsS74.set_1) | exact (Q_HI473_e6 h0_ h1_))) hb))
              have z_HI473_e13 := fun (h0_ : b 13 = true) => (show IsS74 w w31 g473 t471 t492 from by first | exact (IsS74.below (by repeat (first | (with_reducible first | exact (Q_HI473_e13 h0_) | apply IsS74.alloc | apply IsS74.drewN | apply IsS74.drew | apply IsS74.set_1) | exact (Q_HI473_e13 h0_))) hb))
              clear HB
              have HO487 := n0_
              have HB := n2_
              clear n0_ n2_
              clear hb ho32
              obtain ⟨Ao33, co33, eo33⟩ := Kd.R_slice HO487.out
              subst eo33
              obtain ⟨ado33, fo33, _⟩ := Kd.at_string (Kd.R_reads' HO487.out).2.2 0 (by decide) (by rw [Ny485.out]; simp)
              cases fo33
              refine hK.out _ _ ⟨.slice (some ado33) y485.length co33, ado33, m7_, (by rw [ha.out]; exact putSel_upk 1 hb_ rfl rfl rfl), z_HI473, (HB.out), fun _ => (by exact HO487.out), fun _ => ⟨_, rfl⟩, z_HI473_e6, z_HI473_e13, fun h0_ => absurd ((hoff 7 (by kernel_rfl)).symm.trans h0_) (by decide)⟩
             refine steps_cons ?_ ?_
             ·rintro b a w' ⟨v486, adz_v486, m7_, ha, Q_HI473, Q_HB, Q_HO487, Q_HA_HO487, Q_HI473_e6, Q_HI473_e13, Q_X7_⟩ hb_ hon hoff
              refine ⟨_, rfl, fun K hK => ?_⟩
              have e35 : a.tmps[35]? = some (.pointer (some ⟨g473, 0, none⟩)) := by rw [ha]; exact (putSel_off rfl).trans rfl
              replace ha := Aside0.mk ha
              have HI473 := Aside0.mk (Q_HI473 hb_)
              have HB := Aside0.mk Q_HB
              refine goes_ Try.func60 (by kernel_rfl) rfl #[.pointer (some ⟨g473, 0, none⟩), .int .i64 7] (by rfl) rfl rfl (by first | (simp only [List.map_toArray, List.map_cons, List.map_nil, Act.eval, Array.getD_eq_getD_getElem?, Option.getD_some, e35]; done) | (simp only [List.map_toArray, List.map_cons, List.map_nil, Act.eval, Array.getD_eq_getD_getElem?, Option.getD_some, e35]; rfl)) ?_
              with_reducible refine (spec_l20Rd_pick.calls kj5 g473 t471 t484 7 t488 t489 w _ ?side1 ?side2 A20.out).mono ?_
              (case side1 => repeat (first | (with_reducible first | exact HI473.out | apply IsS74.alloc | apply IsS74.drewN | apply IsS74.drew | apply IsS74.set_1) | exact HI473.out))
              (case side2 => repeat (first | (with_reducible first | exact HB.out | apply below_alloc | apply pw_below_drewN | apply below_drew1 | refine below_set ?_ (IsS74.ge HI473.out)) | exact HB.out))
              rintro e w31 ⟨rfl, hi, hb, hk⟩
              refine ⟨_, rfl, ?_⟩
              have n0_ := Aside0.mk (hb)
              have n1_ := Aside0.mk (hi)
              have z_HO487 := fun (h0_ : b 4 = true) => (show Kd.R Kd.string 9 w31 w.heap.size (fun _ => True) v486 y485 from by first | exact (Kd.R_mono (Kd.R_keep (IsS74.apart (show IsS74 w _ g473 t471 t484 from by repeat (first | (with_reducible first | exact HI473.out | apply IsS74.alloc | apply IsS74.drewN | apply IsS74.drew | apply IsS74.set_1) | exact HI473.out)) (by exact (Q_HO487 h0_)) (by decide)) hk (fun _ h => h.2)) (fun _ h => h.1)) | exact Kd.R_mono (Kd.R_mono (Kd.R_keep (IsS74.apart (show IsS74 w _ g473 t471 t484 from by repeat (first | (with_reducible first | exact HI473.out | apply IsS74.alloc | apply IsS74.drewN | apply IsS74.drew | apply IsS74.set_1) | exact HI473.out)) (by exact (Q_HO487 h0_)) (by decide)) hk (fun _ h => h.2)) (fun _ h => h.1)) (fun _ h_ => by first | trivial | exact h_ | exact h_.1))
              clear HB
              clear HI473
              have HB := n0_
              have HI473 := n1_
              clear n0_ n1_
              (try clear hb)
              (try clear hb2)
              (try clear hk)
              (try clear hi)
              refine hK.out _ _ ⟨v486, adz_v486, m7_, (by rw [ha.out]; exact putSel_upk 2 hb_ rfl rfl rfl), fun h0_ => absurd ((up_self b 6).symm.trans h0_) (by decide), (by repeat (first | (with_reducible first | exact HB.out | apply below_alloc | apply pw_below_drewN | apply below_drew1 | refine below_set ?_ (IsS74.ge HI473.out)) | exact HB.out)), z_HO487, Q_HA_HO487, fun _ _ => (by repeat (first | (with_reducible first | exact HI473.out | apply IsS74.alloc | apply IsS74.drewN | apply IsS74.drew | apply IsS74.set_1) | exact HI473.out)), fun h0_ => absurd ((hoff 13 (by kernel_rfl)).symm.trans h0_) (by decide), fun h0_ => absurd ((hoff 7 (by kernel_rfl)).symm.trans h0_) (by decide)⟩
             refine steps_cons ?_ ?_
             ·rintro b a w' ⟨v486, adz_v486, m7_, ha, Q_HI473, Q_HB, Q_HO487, Q_HA_HO487, Q_HI473_e6, Q_HI473_e13, Q_X7_⟩ hb_ hon hoff
              refine ⟨_, rfl, fun K hK => ?_⟩
              have e34 : a.tmps[34]? = some (v486) := by rw [ha]; exact putSel_on (e := (4, 34, v486)) 1 rfl rfl (hon 4 (by kernel_rfl)) rfl
              have e36 : a.tmps[36]? = some (.int .i64 t488) := by rw [ha]; exact putSel_on (e := (6, 36, .int .i64 t488)) 2 rfl rfl (hon 6 (by kernel_rfl)) rfl
              replace ha := Aside0.mk ha
              have HB := Aside0.mk Q_HB
              have HO487 := Aside0.mk (Q_HO487 (hon 4 (by kernel_rfl)))
              have HA_HO487 := Aside0.mk (Q_HA_HO487 (hon 4 (by kernel_rfl)))
              obtain ⟨c_, hv_⟩ := HA_HO487.out
              rw [hv_] at e34
              refine value_ (w1 := w') (v := .pointer (some (adz_v486.add (t488).toNat))) (by rfl) rfl ?_ ?_
              ·go_simp
               (try simp only [i64_w])
               try rfl
              refine hK.out _ _ ⟨v486, adz_v486, (.pointer (some (adz_v486.add (t488).toNat))), (by rw [ha.out]; exact putSel_upk 3 hb_ rfl rfl rfl), fun h0_ => absurd ((hon 6 (by kernel_rfl)).symm.trans h0_) (by decide), Q_HB, Q_HO487, Q_HA_HO487, Q_HI473_e6, Q_HI473_e13, fun _ => rfl⟩
             refine steps_cons ?_ ?_
             ·rintro b a w' ⟨v486, adz_v486, m7_, ha, Q_HI473, Q_HB, Q_HO487, Q_HA_HO487, Q_HI473_e6, Q_HI473_e13, Q_X7_⟩ hb_ hon hoff
              refine ⟨_, rfl, fun K hK => ?_⟩
              have e37 : a.tmps[37]? = some (m7_) := by rw [ha]; exact putSel_on (e := (7, 37, m7_)) 3 rfl rfl (hon 7 (by kernel_rfl)) rfl
              rw [Q_X7_ (hon 7 (by kernel_rfl))] at e37
              replace ha := Aside0.mk ha
              have HB := Aside0.mk Q_HB
              have HO487 := Aside0.mk (Q_HO487 (hon 4 (by kernel_rfl)))
              have HA_HO487 := Aside0.mk (Q_HA_HO487 (hon 4 (by kernel_rfl)))
              obtain ⟨c_, hv_⟩ := HA_HO487.out
              have hF_ := HO487.out
              rw [hv_] at hF_
              obtain ⟨ad_, ea_, hx_⟩ := Kd.at_string (Kd.R_reads' hF_).2.2 t488 (of_eq_true pi490) (of_eq_true qi490)
              cases ea_
              refine value_ (w1 := w') (v := .string (rdOf ByteArray.empty y485 t488)) (by rfl) rfl ?_ ?_
              ·go_simp
               (try simp only [i64_w])
               try rfl
              refine hK.out _ _ ⟨v486, adz_v486, m7_, (by rw [ha.out]; exact putSel_upk 4 hb_ rfl rfl rfl), fun h0_ => absurd ((hon 6 (by kernel_rfl)).symm.trans h0_) (by decide), Q_HB, Q_HO487, Q_HA_HO487, Q_HI473_e6, Q_HI473_e13, Q_X7_⟩
             refine steps_cons ?_ ?_
             ·rintro b a w' ⟨v486, adz_v486, m7_, ha, Q_HI473, Q_HB, Q_HO487, Q_HA_HO487, Q_HI473_e6, Q_HI473_e13, Q_X7_⟩ hb_ hon hoff
              refine ⟨_, rfl, fun K hK => ?_⟩
              have e33 : a.tmps[33]? = some (.string (t480.extract 0 (t483 : Int).toNat)) := by rw [ha]; exact putSel_on (e := (3, 33, .string (t480.extract 0 (t483 : Int).toNat))) 0 rfl rfl (hon 3 (by kernel_rfl)) rfl
              have e38 : a.tmps[38]? = some (.string (rdOf ByteArray.empty y485 t488)) := by rw [ha]; exact putSel_on (e := (8, 38, .string (rdOf ByteArray.empty y485 t488))) 4 rfl rfl (hon 8 (by kernel_rfl)) rfl
              replace ha := Aside0.mk ha
              have HB := Aside0.mk Q_HB
              have HO487 := Aside0.mk (Q_HO487 (hon 4 (by kernel_rfl)))
              have HA_HO487 := Aside0.mk (Q_HA_HO487 (hon 4 (by kernel_rfl)))
              refine value_ (w1 := w') (v := .string ((t480.extract 0 (t483 : Int).toNat) ++ (rdOf ByteArray.empty y485 t488))) (by rfl) rfl ?_ ?_
              ·go_simp
               (try simp only [i64_w])
               (try (have h_ := of_eq_true c23b0; have h2_ : t483 ≤ (t480.size : Int) := of_decide_eq_true (by assumption); simp only [ByteArray.size_append, ByteArray.size_extract] at h_; omega))
               try rfl
              refine hK.out _ _ ⟨v486, adz_v486, m7_, (by rw [ha.out]; exact putSel_upk 5 hb_ rfl rfl rfl), fun h0_ => absurd ((hon 6 (by kernel_rfl)).symm.trans h0_) (by decide), Q_HB, Q_HO487, Q_HA_HO487, Q_HI473_e6, Q_HI473_e13, Q_X7_⟩
             refine steps_cons ?_ ?_
             ·rintro b a w' ⟨v486, adz_v486, m7_, ha, Q_HI473, Q_HB, Q_HO487, Q_HA_HO487, Q_HI473_e6, Q_HI473_e13, Q_X7_⟩ hb_ hon hoff
              refine ⟨_, rfl, fun K hK => ?_⟩
              have e42 : a.tmps[42]? = some (.pointer (some ⟨g473, 0, none⟩)) := by rw [ha]; exact (putSel_off rfl).trans rfl
              replace ha := Aside0.mk ha
              have HB := Aside0.mk Q_HB
              have HI473 := Aside0.mk (Q_HI473_e6 (hon 6 (by kernel_rfl)) hb_)
              refine goes_ Try.func60 (by kernel_rfl) rfl #[.pointer (some ⟨g473, 0, none⟩), .int .i64 2] (by rfl) rfl rfl (by first | (simp only [List.map_toArray, List.map_cons, List.map_nil, Act.eval, Array.getD_eq_getD_getElem?, Option.getD_some, e42]; done) | (simp only [List.map_toArray, List.map_cons, List.map_nil, Act.eval, Array.getD_eq_getD_getElem?, Option.getD_some, e42]; rfl)) ?_
              with_reducible refine (spec_l20Rd_pick.calls kj5 g473 t471 t489 2 t491 t492 w _ ?side1 ?side2 A24.out).mono ?_
              (case side1 => repeat (first | (with_reducible first | exact HI473.out | apply IsS74.alloc | apply IsS74.drewN | apply IsS74.drew | apply IsS74.set_1) | exact HI473.out))
              (case side2 => repeat (first | (with_reducible first | exact HB.out | apply below_alloc | apply pw_below_drewN | apply below_drew1 | refine below_set ?_ (IsS74.ge HI473.out)) | exact HB.out))
              rintro e w33 ⟨rfl, hi, hb, hk⟩
              refine ⟨_, rfl, ?_⟩
              have n0_ := Aside0.mk (hb)
              have n1_ := Aside0.mk (hi)
              have z_HO487 := fun (h0_ : b 4 = true) => (show Kd.R Kd.string 9 w33 w.heap.size (fun _ => True) v486 y485 from by first | exact (Kd.R_mono (Kd.R_keep (IsS74.apart (show IsS74 w _ g473 t471 t489 from by repeat (first | (with_reducible first | exact HI473.out | apply IsS74.alloc | apply IsS74.drewN | apply IsS74.drew | apply IsS74.set_1) | exact HI473.out)) (by exact (Q_HO487 h0_)) (by decide)) hk (fun _ h => h.2)) (fun _ h => h.1)) | exact Kd.R_mono (Kd.R_mono (Kd.R_keep (IsS74.apart (show IsS74 w _ g473 t471 t489 from by repeat (first | (with_reducible first | exact HI473.out | apply IsS74.alloc | apply IsS74.drewN | apply IsS74.drew | apply IsS74.set_1) | exact HI473.out)) (by exact (Q_HO487 h0_)) (by decide)) hk (fun _ h => h.2)) (fun _ h => h.1)) (fun _ h_ => by first | trivial | exact h_ | exact h_.1))
              clear HB
              clear HI473
              have HB := n0_
              have HI473 := n1_
              clear n0_ n1_
              (try clear hb)
              (try clear hb2)
              (try clear hk)
              (try clear hi)
              refine hK.out _ _ ⟨v486, adz_v486, m7_, (by rw [ha.out]; exact putSel_upk 6 hb_ rfl rfl rfl), fun h0_ => absurd ((hon 6 (by kernel_rfl)).symm.trans h0_) (by decide), (by repeat (first | (with_reducible first | exact HB.out | apply below_alloc | apply pw_below_drewN | apply below_drew1 | refine below_set ?_ (IsS74.ge HI473.out)) | exact HB.out)), z_HO487, Q_HA_HO487, fun _ h1_ => absurd ((up_self b 13).symm.trans h1_) (by decide), fun _ => (by repeat (first | (with_reducible first | exact HI473.out | apply IsS74.alloc | apply IsS74.drewN | apply IsS74.drew | apply IsS74.set_1) | exact HI473.out)), Q_X7_⟩
             refine steps_cons ?_ ?_
             ·rintro b a w' ⟨v486, adz_v486, m7_, ha, Q_HI473, Q_HB, Q_HO487, Q_HA_HO487, Q_HI473_e6, Q_HI473_e13, Q_X7_⟩ hb_ hon hoff
              refine ⟨_, rfl, fun K hK => ?_⟩
              have e41 : a.tmps[41]? = some (.int .i64 t483) := by rw [ha]; exact (putSel_off rfl).trans rfl
              have e43 : a.tmps[43]? = some (.int .i64 t491) := by rw [ha]; exact putSel_on (e := (13, 43, .int .i64 t491)) 6 rfl rfl (hon 13 (by kernel_rfl)) rfl
              replace ha := Aside0.mk ha
              have HB := Aside0.mk Q_HB
              have HI473 := Aside0.mk (Q_HI473_e13 (hon 13 (by kernel_rfl)))
              refine value_ (w1 := w') (v := .int .i64 ji25) (by rfl) rfl ?_ ?_
              ·go_simp
               (try simp only [i64_w])
               try rfl
              refine hK.out _ _ ⟨v486, adz_v486, m7_, (by rw [ha.out]; exact putSel_upk 7 hb_ rfl rfl rfl), fun h0_ => absurd ((hon 6 (by kernel_rfl)).symm.trans h0_) (by decide), Q_HB, Q_HO487, Q_HA_HO487, fun _ h1_ => absurd ((hon 13 (by kernel_rfl)).symm.trans h1_) (by decide), Q_HI473_e13, Q_X7_⟩
             refine steps_cons ?_ ?_
             ·rintro b a w' ⟨v486, adz_v486, m7_, ha, Q_HI473, Q_HB, Q_HO487, Q_HA_HO487, Q_HI473_e6, Q_HI473_e13, Q_X7_⟩ hb_ hon hoff
              refine ⟨_, rfl, fun K hK => ?_⟩
              have e40 : a.tmps[40]? = some (.string t480) := by rw [ha]; exact (putSel_off rfl).trans rfl
              have e44 : a.tmps[44]? = some (.int .i64 ji25) := by rw [ha]; exact putSel_on (e := (14, 44, .int .i64 ji25)) 7 rfl rfl (hon 14 (by kernel_rfl)) rfl
              replace ha := Aside0.mk ha
              have HB := Aside0.mk Q_HB
              have HI473 := Aside0.mk (Q_HI473_e13 (hon 13 (by kernel_rfl)))
              refine value_ (w1 := w') (v := .string (t480.extract ((ji25) : Int).toNat t480.size)) (by rfl) rfl ?_ ?_
              ·go_simp
               (try simp only [i64_w])
               try rfl
              refine hK.out _ _ ⟨v486, adz_v486, m7_, (by rw [ha.out]; exact putSel_upk 8 hb_ rfl rfl rfl), fun h0_ => absurd ((hon 6 (by kernel_rfl)).symm.trans h0_) (by decide), Q_HB, Q_HO487, Q_HA_HO487, fun _ h1_ => absurd ((hon 13 (by kernel_rfl)).symm.trans h1_) (by decide), Q_HI473_e13, Q_X7_⟩
             refine steps_cons ?_ ?_
             ·rintro b a w' ⟨v486, adz_v486, m7_, ha, Q_HI473, Q_HB, Q_HO487, Q_HA_HO487, Q_HI473_e6, Q_HI473_e13, Q_X7_⟩ hb_ hon hoff
              refine ⟨_, rfl, fun K hK => ?_⟩
              have e39 : a.tmps[39]? = some (.string ((t480.extract 0 (t483 : Int).toNat) ++ (rdOf ByteArray.empty y485 t488))) := by rw [ha]; exact putSel_on (e := (9, 39, .string ((t480.extract 0 (t483 : Int).toNat) ++ (rdOf ByteArray.empty y485 t488)))) 5 rfl rfl (hon 9 (by kernel_rfl)) rfl
              have e45 : a.tmps[45]? = some (.string (t480.extract ((ji25) : Int).toNat t480.size)) := by rw [ha]; exact putSel_on (e := (15, 45, .string (t480.extract ((ji25) : Int).toNat t480.size))) 8 rfl rfl (hon 15 (by kernel_rfl)) rfl
              replace ha := Aside0.mk ha
              have HB := Aside0.mk Q_HB
              have HO487 := Aside0.mk (Q_HO487 (hon 4 (by kernel_rfl)))
              have HA_HO487 := Aside0.mk (Q_HA_HO487 (hon 4 (by kernel_rfl)))
              have HI473 := Aside0.mk (Q_HI473_e13 (hon 13 (by kernel_rfl)))
              refine value_ (w1 := w') (v := .string (((t480.extract 0 (t483 : Int).toNat) ++ (rdOf ByteArray.empty y485 t488)) ++ (t480.extract ((ji25) : Int).toNat t480.size))) (by rfl) rfl ?_ ?_
              ·go_simp
               (try simp only [i64_w])
               (try (have h_ := of_eq_true c28b0; have h2_ : t483 ≤ (t480.size : Int) := of_decide_eq_true (by assumption); simp only [ByteArray.size_append, ByteArray.size_extract] at h_; omega))
               try rfl
              refine hK.out _ _ ⟨v486, adz_v486, m7_, (by rw [ha.out]; exact putSel_upk 9 hb_ rfl rfl rfl), fun h0_ => absurd ((hon 6 (by kernel_rfl)).symm.trans h0_) (by decide), Q_HB, Q_HO487, Q_HA_HO487, fun _ h1_ => absurd ((hon 13 (by kernel_rfl)).symm.trans h1_) (by decide), Q_HI473_e13, Q_X7_⟩
             refine steps_cons ?_ ?_
             ·rintro b a w' ⟨v486, adz_v486, m7_, ha, Q_HI473, Q_HB, Q_HO487, Q_HA_HO487, Q_HI473_e6, Q_HI473_e13, Q_X7_⟩ hb_ hon hoff
              refine ⟨_, rfl, fun K hK => ?_⟩
              have e30 : a.tmps[30]? = some (.int .i64 (wrap64 (1 + t474))) := by rw [ha]; exact (putSel_off rfl).trans rfl
              replace ha := Aside0.mk ha
              have HB := Aside0.mk Q_HB
              have HI473 := Aside0.mk (Q_HI473_e13 (hon 13 (by kernel_rfl)))
              refine value_ (w1 := w') (v := .int .i64 (wrap64 (1 + t474))) (by rfl) rfl ?_ ?_
              ·go_simp
               (try simp only [i64_w])
               try rfl
              refine hK.out _ _ ⟨v486, adz_v486, m7_, (by rw [ha.out]; exact putSel_upk 10 hb_ rfl rfl rfl), fun h0_ => absurd ((hon 6 (by kernel_rfl)).symm.trans h0_) (by decide), Q_HB, Q_HO487, Q_HA_HO487, fun _ h1_ => absurd ((hon 13 (by kernel_rfl)).symm.trans h1_) (by decide), Q_HI473_e13, Q_X7_⟩
             refine steps_cons ?_ ?_
             ·rintro b a w' ⟨v486, adz_v486, m7_, ha, Q_HI473, Q_HB, Q_HO487, Q_HA_HO487, Q_HI473_e6, Q_HI473_e13, Q_X7_⟩ hb_ hon hoff
              refine ⟨_, rfl, fun K hK => ?_⟩
              have e46 : a.tmps[46]? = some (.string (((t480.extract 0 (t483 : Int).toNat) ++ (rdOf ByteArray.empty y485 t488)) ++ (t480.extract ((ji25) : Int).toNat t480.size))) := by rw [ha]; exact putSel_on (e := (16, 46, .string (((t480.extract 0 (t483 : Int).toNat) ++ (rdOf ByteArray.empty y485 t488)) ++ (t480.extract ((ji25) : Int).toNat t480.size)))) 9 rfl rfl (hon 16 (by kernel_rfl)) rfl
              replace ha := Aside0.mk ha
              have HB := Aside0.mk Q_HB
              have HO487 := Aside0.mk (Q_HO487 (hon 4 (by kernel_rfl)))
              have HA_HO487 := Aside0.mk (Q_HA_HO487 (hon 4 (by kernel_rfl)))
              have HI473 := Aside0.mk (Q_HI473_e13 (hon 13 (by kernel_rfl)))
              refine value_ (w1 := w') (v := .string (((t480.extract 0 (t483 : Int).toNat) ++ (rdOf ByteArray.empty y485 t488)) ++ (t480.extract ((ji25) : Int).toNat t480.size))) (by rfl) rfl ?_ ?_
              ·go_simp
               (try simp only [i64_w])
               try rfl
              refine hK.out _ _ ⟨v486, adz_v486, m7_, (by rw [ha.out]; exact putSel_upk 11 hb_ rfl rfl rfl), fun h0_ => absurd ((hon 6 (by kernel_rfl)).symm.trans h0_) (by decide), Q_HB, Q_HO487, Q_HA_HO487, fun _ h1_ => absurd ((hon 13 (by kernel_rfl)).symm.trans h1_) (by decide), Q_HI473_e13, Q_X7_⟩
             exact steps_nil
            rintro b a w36 hall ⟨v486, adz_v486, m7_, ha, Q_HI473, Q_HB, Q_HO487, Q_HA_HO487, Q_HI473_e6, Q_HI473_e13, Q_X7_⟩
            clear HB HI473
            have hb3_ := hall 3 (by kernel_rfl)
            have hb4_ := hall 4 (by kernel_rfl)
            have hb6_ := hall 6 (by kernel_rfl)
            have hb7_ := hall 7 (by kernel_rfl)
            have hb8_ := hall 8 (by kernel_rfl)
            have hb9_ := hall 9 (by kernel_rfl)
            have hb13_ := hall 13 (by kernel_rfl)
            have hb14_ := hall 14 (by kernel_rfl)
            have hb15_ := hall 15 (by kernel_rfl)
            have hb16_ := hall 16 (by kernel_rfl)
            have hb17_ := hall 17 (by kernel_rfl)
            have hb18_ := hall 18 (by kernel_rfl)
            subst ha
            obtain rfl := Q_X7_ hb7_
            simp only [putSel, hb3_, hb4_, hb6_, hb7_, hb8_, hb9_, hb13_, hb14_, hb15_, hb16_, hb17_, hb18_, if_true, Act.put, List.setIfInBounds_toArray, List.set_cons_zero, List.set_cons_succ]
            clear Q_HI473
            have HB := Aside0.mk Q_HB
            clear Q_HB
            have HO487 := Aside0.mk (Q_HO487 hb4_)
            clear Q_HO487
            have HA_HO487 := Aside0.mk (Q_HA_HO487 hb4_)
            clear Q_HA_HO487
            clear Q_HI473_e6
            have HI473 := Aside0.mk (Q_HI473_e13 hb13_)
            clear Q_HI473_e13
            clear hall hb3_ hb4_ hb6_ hb7_ hb8_ hb9_ hb13_ hb14_ hb15_ hb16_ hb17_ hb18_
            obtain ⟨co37, eo37⟩ := HA_HO487.out
            clear HA_HO487
            subst eo37
            try go_wp2
            go_ret2
            exact ⟨by first | rfl | (simp [errW_none, errW_some] <;> rfl) | (simp only [← hji25]; first | rfl | (simp [errW_none, errW_some] <;> rfl)) | (simp [*, errW_none, errW_some] <;> rfl), by repeat (first | (with_reducible first | exact HB.out | apply below_alloc | apply pw_below_drewN | apply below_drew1 | refine below_set ?_ (IsS74.ge HI473.out)) | exact HB.out)⟩
           ·rw [if_neg c28] at H
            exact absurd H (by simp)
          ·rw [if_neg c27] at H
           exact absurd H (by simp)
         ·rw [if_neg c26] at H
          exact absurd H (by simp)
        ·rw [if_neg c23] at H
         exact absurd H (by simp)
       ·rw [if_neg c22] at H
        exact absurd H (by simp)
      ·rw [if_neg c21] at H
       exact absurd H (by simp)
     ·rw [if_neg c19] at H
      exact absurd H (by simp)
    ·rw [if_neg c18] at H
     exact absurd H (by simp)
   ·replace c16 := Bool.eq_false_iff.mpr c16
    subst c16
    have H1 : (some ((wrap64 (1 + t474)), t480)) = some (r1, r2) := by rw [if_neg (show ¬ (false = true) by decide)] at H; exact H
    clear H
    have H := H1
    clear H1
    simp only [Option.some.injEq, Prod.mk.injEq] at H
    obtain ⟨rfl, rfl⟩ := H
    go_wp2
    go_ret2
    exact ⟨by first | rfl | (simp [errW_none, errW_some] <;> rfl) | (simp [*, errW_none, errW_some] <;> rfl), by repeat (first | (with_reducible first | exact HB.out | apply below_alloc | apply pw_below_drewN | apply below_drew1 | refine below_set ?_ (IsS74.ge HI473.out)) | exact HB.out)⟩

/-! ### laws_FnReadTerm: function 14 -/
def laws_FnReadTerm.j0 : Nat → Int → ByteArray → List (S34) → Bool → Bool → Option (Bool)
 | 0, _, _, _, _, _ => none
 | k + 1, x3, x4, x5, x6, x39 => if x39 = true then (some false) else (if x6 = true then (if 1 + x4.size ≤ 9223372036854775807 then (if ((⟨#[40]⟩ : ByteArray) ++ x4).size + 1 ≤ 9223372036854775807 then ((impl_ReadTerm.f k x3 (((⟨#[40]⟩ : ByteArray) ++ x4) ++ (⟨#[41]⟩ : ByteArray))).bind fun bt504 => ((impl_TermText.f k x3 x5).bind fun t508 => (if t508.toList = x4.toList then ((impl_TermOk.f k x3 x5).bind fun t509 => (if t509 = true then (some (!bt504.2)) else (some false))) else (some false)))) else (none)) else (none)) else (if (x5.length : Int) = 0 then ((laws_alive.f k).bind fun t510 => (some t510)) else (some false)))
def laws_FnReadTerm.f (k : Nat) (l0 : List Int) : Option (Bool) := if (l0.length : Int) > 1048576 then (some true) else ((spec_DrawReadTerm.f k l0).bind fun bt493 => ((impl_ReadTerm.f k bt493.1 bt493.2).bind fun bt495 => ((spec_ReadTerm.f k bt493.1 bt493.2).bind fun bt499 => ((laws_sameMarks.f k bt495.1 bt499.1).bind fun t503 => (if t503 = true then (laws_FnReadTerm.j0 k bt493.1 bt493.2 bt495.1 bt495.2 (bt495.2 != bt499.2)) else (laws_FnReadTerm.j0 k bt493.1 bt493.2 bt495.1 bt495.2 true))))))
set_option maxHeartbeats 8000000 in
set_option maxRecDepth 100000 in
theorem laws_FnReadTerm.calls (k : Nat) (A0 : Option Addr) (c0 : Nat) (l0 : List Int) (r : Bool) (w : World) (hr0 : Kd.C (Kd.int .u8) w A0 l0.length l0) (hc0 : l0.length ≤ c0) (h : laws_FnReadTerm.f k l0 = some r) :
  Calls Try.prog 14 #[.slice A0 l0.length c0] w fun e w' => e = .returned (.bool r) ∧ Below w.heap.size w w' := by
 have HR0 := Aside0.mk hr0
 have HC0 := Aside0.mk hc0
 clear hr0 hc0
 have HB := Aside0.mk (Below.refl w.heap.size w)
 have H : (if (l0.length : Int) > 1048576 then (some true) else ((spec_DrawReadTerm.f k l0).bind fun bt493 => ((impl_ReadTerm.f k bt493.1 bt493.2).bind fun bt495 => ((spec_ReadTerm.f k bt493.1 bt493.2).bind fun bt499 => ((laws_sameMarks.f k bt495.1 bt499.1).bind fun t503 => (if t503 = true then (laws_FnReadTerm.j0 k bt493.1 bt493.2 bt495.1 bt495.2 (bt495.2 != bt499.2)) else (laws_FnReadTerm.j0 k bt493.1 bt493.2 bt495.1 bt495.2 true))))))) = some r := h
 clear h
 by_cases c2 : (l0.length : Int) > 1048576
 ·rw [if_pos c2] at H
  have c2b0 : decide (1048576 < (l0.length : Int)) = true := decide_eq_true c2
  have c2b1 : decide (1048576 < l0.length) = true := decide_eq_true (by omega)
  clear c2
  obtain rfl := Option.some.inj H
  go_enter Try.func14, Try.ntmps14
  go_wp2
  go_ret
  exact ⟨by first | rfl | (simp [errW_none, errW_some] <;> rfl) | (simp [*, errW_none, errW_some] <;> rfl), HB.out⟩
 ·rw [if_neg c2] at H
  have c2b0 : decide (1048576 < (l0.length : Int)) = false := decide_eq_false c2
  have c2b1 : decide (1048576 < l0.length) = false := decide_eq_false (by omega)
  clear c2
  replace H := Option.bind_eq_some_iff.mp H
  obtain ⟨⟨t493, t494⟩, A30, H⟩ := H
  try dsimp only at H
  have A3 := Aside0.mk A30
  clear A30
  replace H := Option.bind_eq_some_iff.mp H
  obtain ⟨⟨t495, t496⟩, A40, H⟩ := H
  try dsimp only at H
  have A4 := Aside0.mk A40
  clear A40
  replace H := Option.bind_eq_some_iff.mp H
  obtain ⟨⟨t499, t500⟩, A50, H⟩ := H
  try dsimp only at H
  have A5 := Aside0.mk A50
  clear A50
  have HC6 := Aside0.mk H
  clear H
  go_enter Try.func14, Try.ntmps14
  go_upto_region 6 with (first | ((with_reducible refine gate_callee (f := 42) rfl ?_); refine goesL_ (some 16) rfl rfl Try.func42 (by kernel_rfl) rfl #[.slice A0 l0.length c0] rfl (by (try simp only [List.map_toArray, List.map_cons, List.map_nil]); first | done | rfl | (simp only [List.length_drop, List.length_take]; rfl)) ?_; (with_reducible refine (spec_DrawReadTerm.calls k _ _ l0 t493 t494 _ ?side1 ?side2 A3.out).mono ?_); (case side1 => repeat (first | exact HR0.out | (with_reducible refine Kd.C_alloc ?_ _) | (with_reducible refine Kd.C_drewN ?_ _) | (with_reducible refine Kd.C_drew ?_))); (case side2 => exact HC0.out); rintro e w7 ⟨rfl, hb⟩; refine ⟨_, rfl, ?_⟩; have n0_ := Aside0.mk (below_step (HB.out) hb); clear HB; have HB := n0_; clear n0_) | ((with_reducible refine gate_callee (f := 29) rfl ?_); refine goesL_ (some 22) rfl rfl Try.func29 (by kernel_rfl) rfl #[.int .i64 t493, .string t494] rfl (by (try simp only [List.map_toArray, List.map_cons, List.map_nil]); first | done | rfl | (simp only [List.length_drop, List.length_take]; rfl)) ?_; (with_reducible refine (impl_ReadTerm.calls k t493 t494 t495 t496 _ A4.out).mono ?_); rintro e w8 ⟨v497, rfl, ho0, hb⟩; refine ⟨_, rfl, ?_⟩; have n0_ := Aside0.mk (Kd.R_lower ho0 (below_size (HB.out))); have n1_ := Aside0.mk (below_step (HB.out) hb); clear HB; have HO498 := n0_; have HB := n1_; clear n0_ n1_; (try clear ho0)) | ((with_reducible refine gate_callee (f := 41) rfl ?_); refine goesL_ (some 28) rfl rfl Try.func41 (by kernel_rfl) rfl #[.int .i64 t493, .string t494] rfl (by (try simp only [List.map_toArray, List.map_cons, List.map_nil]); first | done | rfl | (simp only [List.length_drop, List.length_take]; rfl)) ?_; (with_reducible refine (spec_ReadTerm.calls k t493 t494 t499 t500 _ A5.out).mono ?_); rintro e w9 ⟨v501, rfl, ho0, hb⟩; refine ⟨_, rfl, ?_⟩; have n0_ := Aside0.mk (Kd.R_elder' (by exact HO498.out) (Kd.R_base ho0) hb); have n1_ := Aside0.mk (Kd.R_lower (Kd.R_new' ho0 (Kd.R_lt (by exact HO498.out))) (below_size (HB.out))); have n2_ := Aside0.mk (below_step (HB.out) hb); clear HO498; clear HB; have HO498 := n0_; have HO502 := n1_; have HB := n2_; clear n0_ n1_ n2_; (try clear ho0)))
  (try simp only [Act.put, List.setIfInBounds_toArray, List.set_cons_zero, List.set_cons_succ])
  go_cut [39] (fun v39 wc => ∃ (kq : Nat) (x39_5 : Bool), v39 = .bool x39_5 ∧ Aside0 (laws_FnReadTerm.j0 kq t493 t494 t495 t496 x39_5 = some r) ∧ Aside0 (kq ≤ k) ∧ Aside0 (Kd.R k34 34 wc w.heap.size (fun _ => True) v497 t495) ∧ Aside0 (Below w.heap.size w wc))
  case first =>
   have H := HC6.out
   clear HC6
   replace H := Option.bind_eq_some_iff.mp H
   obtain ⟨t503, A100, H⟩ := H
   replace H : (if t503 = true then (laws_FnReadTerm.j0 k t493 t494 t495 t496 (t496 != t500)) else (laws_FnReadTerm.j0 k t493 t494 t495 t496 true)) = some r := H
   have A10 := Aside0.mk A100
   clear A100
   by_cases c11 : t503 = true
   ·subst c11
    have H1 : (laws_FnReadTerm.j0 k t493 t494 t495 t496 (t496 != t500)) = some r := by rw [if_pos rfl] at H; exact H
    clear H
    have H := H1
    clear H1
    have H' := Aside0.mk H
    clear H
    obtain ⟨Ao12, co12, eo12⟩ := Kd.R_slice HO498.out
    subst eo12
    obtain ⟨Ao13, co13, eo13⟩ := Kd.R_slice HO502.out
    subst eo13
    go_wp2_with (first | ((with_reducible refine gate_callee (f := 30) rfl ?_); refine goesL_ (some 33) rfl rfl Try.func30 (by kernel_rfl) rfl #[.slice Ao12 t495.length co12, .slice Ao13 t499.length co13] rfl (by (try simp only [List.map_toArray, List.map_cons, List.map_nil]); first | done | rfl | (simp only [List.length_drop, List.length_take]; rfl)) ?_; (with_reducible refine (laws_sameMarks.calls k _ _ t495 _ _ t499 true _ ?side1 ?side2 ?side3 ?side4 A10.out).mono ?_); (case side1 => repeat (first | exact (Kd.R_reads' HO498.out).2.2 | (with_reducible refine Kd.C_alloc ?_ _) | (with_reducible refine Kd.C_drewN ?_ _) | (with_reducible refine Kd.C_drew ?_))); (case side2 => exact (Kd.R_reads' HO498.out).2.1); (case side3 => repeat (first | exact (Kd.R_reads' HO502.out).2.2 | (with_reducible refine Kd.C_alloc ?_ _) | (with_reducible refine Kd.C_drewN ?_ _) | (with_reducible refine Kd.C_drew ?_))); (case side4 => exact (Kd.R_reads' HO502.out).2.1); rintro e w' ⟨rfl, ⟨nd, rfl⟩⟩; refine ⟨_, rfl, ?_⟩))
    go_meet
    case rel => exact ⟨_, ((t496 != t500)), (by first | rfl | (simp; done) | (simp [*]; done)), H', ⟨by first | omega | exact Nat.le_refl _⟩, ⟨by exact Kd.R_mono HO498.out (fun _ hk => trivial)⟩, ⟨by repeat (first | (with_reducible first | exact HB.out | apply below_alloc | apply pw_below_drewN | apply below_drew1) | exact HB.out)⟩⟩
   ·replace c11 := Bool.eq_false_iff.mpr c11
    subst c11
    have H1 : (laws_FnReadTerm.j0 k t493 t494 t495 t496 true) = some r := by rw [if_neg (show ¬ (false = true) by decide)] at H; exact H
    clear H
    have H := H1
    clear H1
    have H' := Aside0.mk H
    clear H
    obtain ⟨Ao14, co14, eo14⟩ := Kd.R_slice HO498.out
    subst eo14
    obtain ⟨Ao15, co15, eo15⟩ := Kd.R_slice HO502.out
    subst eo15
    go_wp2_with (first | ((with_reducible refine gate_callee (f := 30) rfl ?_); refine goesL_ (some 33) rfl rfl Try.func30 (by kernel_rfl) rfl #[.slice Ao14 t495.length co14, .slice Ao15 t499.length co15] rfl (by (try simp only [List.map_toArray, List.map_cons, List.map_nil]); first | done | rfl | (simp only [List.length_drop, List.length_take]; rfl)) ?_; (with_reducible refine (laws_sameMarks.calls k _ _ t495 _ _ t499 false _ ?side1 ?side2 ?side3 ?side4 A10.out).mono ?_); (case side1 => repeat (first | exact (Kd.R_reads' HO498.out).2.2 | (with_reducible refine Kd.C_alloc ?_ _) | (with_reducible refine Kd.C_drewN ?_ _) | (with_reducible refine Kd.C_drew ?_))); (case side2 => exact (Kd.R_reads' HO498.out).2.1); (case side3 => repeat (first | exact (Kd.R_reads' HO502.out).2.2 | (with_reducible refine Kd.C_alloc ?_ _) | (with_reducible refine Kd.C_drewN ?_ _) | (with_reducible refine Kd.C_drew ?_))); (case side4 => exact (Kd.R_reads' HO502.out).2.1); rintro e w' ⟨rfl, ⟨nd, rfl⟩⟩; refine ⟨_, rfl, ?_⟩))
    go_meet
    case rel => exact ⟨_, (true), (by first | rfl | (simp; done) | (simp [*]; done)), H', ⟨by first | omega | exact Nat.le_refl _⟩, ⟨by exact Kd.R_mono HO498.out (fun _ hk => trivial)⟩, ⟨by repeat (first | (with_reducible first | exact HB.out | apply below_alloc | apply pw_below_drewN | apply below_drew1) | exact HB.out)⟩⟩
  case rest =>
   clear HC6
   try clear c1
   try clear c2
   try clear c2b0
   try clear c2b1
   try clear p2
   try clear c3
   try clear c4
   try clear c11
   try clear c14
   obtain ⟨kq, x39_5, rfl, HA, HJ5, HO_5, HB⟩ := hcut
   cases kq with
   | zero => exact absurd HA.out (by simp [laws_FnReadTerm.j0])
   | succ kj5 =>
    have H := HA.out
    clear HA
    simp only [laws_FnReadTerm.j0] at H
    by_cases c16 : x39_5 = true
    ·subst c16
     have H1 : (some false) = some r := by rw [if_pos rfl] at H; exact H
     clear H
     have H := H1
     clear H1
     obtain rfl := Option.some.inj H
     go_wp2
     go_ret
     exact ⟨by first | rfl | (simp [errW_none, errW_some] <;> rfl) | (simp [*, errW_none, errW_some] <;> rfl), HB.out⟩
    ·replace c16 := Bool.eq_false_iff.mpr c16
     subst c16
     have H1 : (if t496 = true then (if 1 + t494.size ≤ 9223372036854775807 then (if ((⟨#[40]⟩ : ByteArray) ++ t494).size + 1 ≤ 9223372036854775807 then ((impl_ReadTerm.f kj5 t493 (((⟨#[40]⟩ : ByteArray) ++ t494) ++ (⟨#[41]⟩ : ByteArray))).bind fun bt504 => ((impl_TermText.f kj5 t493 t495).bind fun t508 => (if t508.toList = t494.toList then ((impl_TermOk.f kj5 t493 t495).bind fun t509 => (if t509 = true then (some (!bt504.2)) else (some false))) else (some false)))) else (none)) else (none)) else (if (t495.length : Int) = 0 then ((laws_alive.f kj5).bind fun t510 => (some t510)) else (some false))) = some r := by rw [if_neg (show ¬ (false = true) by decide)] at H; exact H
     clear H
     have H := H1
     clear H1
     by_cases c17 : t496 = true
     ·subst c17
      have H1 : (if 1 + t494.size ≤ 9223372036854775807 then (if ((⟨#[40]⟩ : ByteArray) ++ t494).size + 1 ≤ 9223372036854775807 then ((impl_ReadTerm.f kj5 t493 (((⟨#[40]⟩ : ByteArray) ++ t494) ++ (⟨#[41]⟩ : ByteArray))).bind fun bt504 => ((impl_TermText.f kj5 t493 t495).bind fun t508 => (if t508.toList = t494.toList then ((impl_TermOk.f kj5 t493 t495).bind fun t509 => (if t509 = true then (some (!bt504.2)) else (some false))) else (some false)))) else (none)) else (none)) = some r := by rw [if_pos rfl] at H; exact H
      clear H
      have H := H1
      clear H1
      by_cases c18 : 1 + t494.size ≤ 9223372036854775807
      ·rw [if_pos c18] at H
       have c18b0 := eq_true c18
       have c18b1 : decide (1 + t494.size ≤ 9223372036854775807) = true := decide_eq_true c18
       try have c18b2 : (9223372036854775807 < 1 + t494.size) = False := eq_false (Nat.not_lt.2 c18)
       by_cases c19 : ((⟨#[40]⟩ : ByteArray) ++ t494).size + 1 ≤ 9223372036854775807
       ·rw [if_pos c19] at H
        have c19b0 := eq_true c19
        have c19b1 : decide (((⟨#[40]⟩ : ByteArray) ++ t494).size + 1 ≤ 9223372036854775807) = true := decide_eq_true c19
        try have c19b2 : (9223372036854775807 < ((⟨#[40]⟩ : ByteArray) ++ t494).size + 1) = False := eq_false (Nat.not_lt.2 c19)
        have c19b3 : (9223372036854775807 < 1 + t494.size + 1) = False := eq_false (by have h_ := c19; simp only [ByteArray.size_append, show (⟨#[40]⟩ : ByteArray).size = 1 from rfl] at h_; omega)
        replace H := Option.bind_eq_some_iff.mp H
        obtain ⟨⟨t504, t505⟩, A200, H⟩ := H
        try dsimp only at H
        have A20 := Aside0.mk A200
        clear A200
        replace H := Option.bind_eq_some_iff.mp H
        obtain ⟨t508, A210, H⟩ := H
        try dsimp only at H
        have A21 := Aside0.mk A210
        clear A210
        by_cases c22 : t508.toList = t494.toList
        ·rw [if_pos c22] at H
         have c22b0 : (t508.toList == t494.toList) = true := beq_iff_eq.mpr c22
         have c22b1 : (t508.toList != t494.toList) = false := bne_eq_false_iff_eq.mpr c22
         clear c22
         replace H := Option.bind_eq_some_iff.mp H
         obtain ⟨t509, A230, H⟩ := H
         replace H : (if t509 = true then (some (!t505)) else (some false)) = some r := H
         have A23 := Aside0.mk A230
         clear A230
         by_cases c24 : t509 = true
         ·subst c24
          have H1 : (some (!t505)) = some r := by rw [if_pos rfl] at H; exact H
          clear H
          have H := H1
          clear H1
          obtain rfl := Option.some.inj H
          go_wp2_with (first | ((with_reducible refine gate_callee (f := 29) rfl ?_); refine goesL_ (some 53) rfl rfl Try.func29 (by kernel_rfl) rfl #[.int .i64 t493, .string (((⟨#[40]⟩ : ByteArray) ++ t494) ++ (⟨#[41]⟩ : ByteArray))] rfl (by (try simp only [List.map_toArray, List.map_cons, List.map_nil]); first | done | rfl | (simp only [List.length_drop, List.length_take]; rfl)) ?_; (with_reducible refine (impl_ReadTerm.calls kj5 t493 (((⟨#[40]⟩ : ByteArray) ++ t494) ++ (⟨#[41]⟩ : ByteArray)) t504 t505 _ A20.out).mono ?_); rintro e w25 ⟨v506, rfl, ho0, hb⟩; refine ⟨_, rfl, ?_⟩; have n0_ := Aside0.mk (Kd.R_elder' (by exact HO_5.out) (Kd.R_base ho0) hb); have n1_ := Aside0.mk (Kd.R_lower (Kd.R_new' ho0 (Kd.R_lt (by exact HO_5.out))) (below_size (HB.out))); have n2_ := Aside0.mk (below_step (HB.out) hb); clear HO_5; clear HB; have HO_5 := n0_; have HO507 := n1_; have HB := n2_; clear n0_ n1_ n2_; (try clear ho0); obtain ⟨Ao26, co26, eo26⟩ := Kd.R_slice HO_5.out; subst eo26) | ((with_reducible refine gate_callee (f := 27) rfl ?_); refine goesL_ (some 58) rfl rfl Try.func27 (by kernel_rfl) rfl #[.int .i64 t493, .slice Ao26 t495.length co26] rfl (by (try simp only [List.map_toArray, List.map_cons, List.map_nil]); first | done | rfl | (simp only [List.length_drop, List.length_take]; rfl)) ?_; (with_reducible refine (impl_TermText.calls kj5 t493 _ _ t495 t508 _ ?side1 ?side2 A21.out).mono ?_); (case side1 => repeat (first | exact (Kd.R_reads' HO_5.out).2.2 | (with_reducible refine Kd.C_alloc ?_ _) | (with_reducible refine Kd.C_drewN ?_ _) | (with_reducible refine Kd.C_drew ?_))); (case side2 => exact (Kd.R_reads' HO_5.out).2.1); rintro e w27 ⟨rfl, hb⟩; refine ⟨_, rfl, ?_⟩; have n0_ := Aside0.mk (Kd.R_below (by exact HO_5.out) hb); have n1_ := Aside0.mk (Kd.R_below (by exact HO507.out) hb); have n2_ := Aside0.mk (below_step (HB.out) hb); clear HO_5; clear HO507; clear HB; have HO_5 := n0_; have HO507 := n1_; have HB := n2_; clear n0_ n1_ n2_) | (go_at_call 18; (with_reducible refine (impl_TermOk.calls kj5 t493 _ _ t495 true _ ?side1 ?side2 A23.out).mono ?_); (case side1 => repeat (first | exact (Kd.R_reads' HO_5.out).2.2 | (with_reducible refine Kd.C_alloc ?_ _) | (with_reducible refine Kd.C_drewN ?_ _) | (with_reducible refine Kd.C_drew ?_))); (case side2 => exact (Kd.R_reads' HO_5.out).2.1); rintro e w28 ⟨rfl, hb⟩; have n0_ := Aside0.mk (Kd.R_below (by exact HO_5.out) hb); have n1_ := Aside0.mk (Kd.R_below (by exact HO507.out) hb); have n2_ := Aside0.mk (below_step (HB.out) hb); clear HO_5; clear HO507; clear HB; have HO_5 := n0_; have HO507 := n1_; have HB := n2_; clear n0_ n1_ n2_))
          go_ret
          exact ⟨by first | rfl | (simp [errW_none, errW_some] <;> rfl) | (simp [*, errW_none, errW_some] <;> rfl), HB.out⟩
         ·replace c24 := Bool.eq_false_iff.mpr c24
          subst c24
          have H1 : (some false) = some r := by rw [if_neg (show ¬ (false = true) by decide)] at H; exact H
          clear H
          have H := H1
          clear H1
          obtain rfl := Option.some.inj H
          go_wp2_with (first | ((with_reducible refine gate_callee (f := 29) rfl ?_); refine goesL_ (some 53) rfl rfl Try.func29 (by kernel_rfl) rfl #[.int .i64 t493, .string (((⟨#[40]⟩ : ByteArray) ++ t494) ++ (⟨#[41]⟩ : ByteArray))] rfl (by (try simp only [List.map_toArray, List.map_cons, List.map_nil]); first | done | rfl | (simp only [List.length_drop, List.length_take]; rfl)) ?_; (with_reducible refine (impl_ReadTerm.calls kj5 t493 (((⟨#[40]⟩ : ByteArray) ++ t494) ++ (⟨#[41]⟩ : ByteArray)) t504 t505 _ A20.out).mono ?_); rintro e w29 ⟨v506, rfl, ho0, hb⟩; refine ⟨_, rfl, ?_⟩; have n0_ := Aside0.mk (Kd.R_elder' (by exact HO_5.out) (Kd.R_base ho0) hb); have n1_ := Aside0.mk (Kd.R_lower (Kd.R_new' ho0 (Kd.R_lt (by exact HO_5.out))) (below_size (HB.out))); have n2_ := Aside0.mk (below_step (HB.out) hb); clear HO_5; clear HB; have HO_5 := n0_; have HO507 := n1_; have HB := n2_; clear n0_ n1_ n2_; (try clear ho0); obtain ⟨Ao30, co30, eo30⟩ := Kd.R_slice HO_5.out; subst eo30) | ((with_reducible refine gate_callee (f := 27) rfl ?_); refine goesL_ (some 58) rfl rfl Try.func27 (by kernel_rfl) rfl #[.int .i64 t493, .slice Ao30 t495.length co30] rfl (by (try simp only [List.map_toArray, List.map_cons, List.map_nil]); first | done | rfl | (simp only [List.length_drop, List.length_take]; rfl)) ?_; (with_reducible refine (impl_TermText.calls kj5 t493 _ _ t495 t508 _ ?side1 ?side2 A21.out).mono ?_); (case side1 => repeat (first | exact (Kd.R_reads' HO_5.out).2.2 | (with_reducible refine Kd.C_alloc ?_ _) | (with_reducible refine Kd.C_drewN ?_ _) | (with_reducible refine Kd.C_drew ?_))); (case side2 => exact (Kd.R_reads' HO_5.out).2.1); rintro e w31 ⟨rfl, hb⟩; refine ⟨_, rfl, ?_⟩; have n0_ := Aside0.mk (Kd.R_below (by exact HO_5.out) hb); have n1_ := Aside0.mk (Kd.R_below (by exact HO507.out) hb); have n2_ := Aside0.mk (below_step (HB.out) hb); clear HO_5; clear HO507; clear HB; have HO_5 := n0_; have HO507 := n1_; have HB := n2_; clear n0_ n1_ n2_) | (go_at_call 18; (with_reducible refine (impl_TermOk.calls kj5 t493 _ _ t495 false _ ?side1 ?side2 A23.out).mono ?_); (case side1 => repeat (first | exact (Kd.R_reads' HO_5.out).2.2 | (with_reducible refine Kd.C_alloc ?_ _) | (with_reducible refine Kd.C_drewN ?_ _) | (with_reducible refine Kd.C_drew ?_))); (case side2 => exact (Kd.R_reads' HO_5.out).2.1); rintro e w32 ⟨rfl, hb⟩; have n0_ := Aside0.mk (Kd.R_below (by exact HO_5.out) hb); have n1_ := Aside0.mk (Kd.R_below (by exact HO507.out) hb); have n2_ := Aside0.mk (below_step (HB.out) hb); clear HO_5; clear HO507; clear HB; have HO_5 := n0_; have HO507 := n1_; have HB := n2_; clear n0_ n1_ n2_))
          go_ret
          exact ⟨by first | rfl | (simp [errW_none, errW_some] <;> rfl) | (simp [*, errW_none, errW_some] <;> rfl), HB.out⟩
        ·rw [if_neg c22] at H
         have c22b0 : (t508.toList == t494.toList) = false := beq_eq_false_iff_ne.mpr c22
         have c22b1 : (t508.toList != t494.toList) = true := bne_iff_ne.mpr c22
         obtain rfl := Option.some.inj H
         go_wp2_with (first | ((with_reducible refine gate_callee (f := 29) rfl ?_); refine goesL_ (some 53) rfl rfl Try.func29 (by kernel_rfl) rfl #[.int .i64 t493, .string (((⟨#[40]⟩ : ByteArray) ++ t494) ++ (⟨#[41]⟩ : ByteArray))] rfl (by (try simp only [List.map_toArray, List.map_cons, List.map_nil]); first | done | rfl | (simp only [List.length_drop, List.length_take]; rfl)) ?_; (with_reducible refine (impl_ReadTerm.calls kj5 t493 (((⟨#[40]⟩ : ByteArray) ++ t494) ++ (⟨#[41]⟩ : ByteArray)) t504 t505 _ A20.out).mono ?_); rintro e w33 ⟨v506, rfl, ho0, hb⟩; refine ⟨_, rfl, ?_⟩; have n0_ := Aside0.mk (Kd.R_elder' (by exact HO_5.out) (Kd.R_base ho0) hb); have n1_ := Aside0.mk (Kd.R_lower (Kd.R_new' ho0 (Kd.R_lt (by exact HO_5.out))) (below_size (HB.out))); have n2_ := Aside0.mk (below_step (HB.out) hb); clear HO_5; clear HB; have HO_5 := n0_; have HO507 := n1_; have HB := n2_; clear n0_ n1_ n2_; (try clear ho0); obtain ⟨Ao34, co34, eo34⟩ := Kd.R_slice HO_5.out; subst eo34) | ((with_reducible refine gate_callee (f := 27) rfl ?_); refine goesL_ (some 58) rfl rfl Try.func27 (by kernel_rfl) rfl #[.int .i64 t493, .slice Ao34 t495.length co34] rfl (by (try simp only [List.map_toArray, List.map_cons, List.map_nil]); first | done | rfl | (simp only [List.length_drop, List.length_take]; rfl)) ?_; (with_reducible refine (impl_TermText.calls kj5 t493 _ _ t495 t508 _ ?side1 ?side2 A21.out).mono ?_); (case side1 => repeat (first | exact (Kd.R_reads' HO_5.out).2.2 | (with_reducible refine Kd.C_alloc ?_ _) | (with_reducible refine Kd.C_drewN ?_ _) | (with_reducible refine Kd.C_drew ?_))); (case side2 => exact (Kd.R_reads' HO_5.out).2.1); rintro e w35 ⟨rfl, hb⟩; refine ⟨_, rfl, ?_⟩; have n0_ := Aside0.mk (Kd.R_below (by exact HO_5.out) hb); have n1_ := Aside0.mk (Kd.R_below (by exact HO507.out) hb); have n2_ := Aside0.mk (below_step (HB.out) hb); clear HO_5; clear HO507; clear HB; have HO_5 := n0_; have HO507 := n1_; have HB := n2_; clear n0_ n1_ n2_))
         go_ret
         exact ⟨by first | rfl | (simp [errW_none, errW_some] <;> rfl) | (simp [*, errW_none, errW_some] <;> rfl), HB.out⟩
       ·rw [if_neg c19] at H
        exact absurd H (by simp)
      ·rw [if_neg c18] at H
       exact absurd H (by simp)
     ·replace c17 := Bool.eq_false_iff.mpr c17
      subst c17
      have H1 : (if (t495.length : Int) = 0 then ((laws_alive.f kj5).bind fun t510 => (some t510)) else (some false)) = some r := by rw [if_neg (show ¬ (false = true) by decide)] at H; exact H
      clear H
      have H := H1
      clear H1
      by_cases c36 : (t495.length : Int) = 0
      ·rw [if_pos c36] at H
       have c36b0 : ((t495.length : Int) == 0) = true := beq_iff_eq.mpr c36
       have c36b1 : ((t495.length : Int) != 0) = false := bne_eq_false_iff_eq.mpr c36
       clear c36
       replace H := Option.bind_eq_some_iff.mp H
       obtain ⟨t510, A370, H⟩ := H
       replace H : (some t510) = some r := H
       have A37 := Aside0.mk A370
       clear A370
       obtain rfl := Option.some.inj H
       obtain ⟨Ao38, co38, eo38⟩ := Kd.R_slice HO_5.out
       subst eo38
       go_wp2_with (first | (go_at_call 21; (with_reducible refine (laws_alive.calls kj5  t510 _ A37.out).mono ?_); rintro e w39 ⟨rfl, hb⟩; have n0_ := Aside0.mk (Kd.R_below (by exact HO_5.out) hb); have n1_ := Aside0.mk (below_step (HB.out) hb); clear HO_5; clear HB; have HO_5 := n0_; have HB := n1_; clear n0_ n1_))
       go_ret
       exact ⟨by first | rfl | (simp [errW_none, errW_some] <;> rfl) | (simp [*, errW_none, errW_some] <;> rfl), HB.out⟩
      ·rw [if_neg c36] at H
       have c36b0 : ((t495.length : Int) == 0) = false := beq_eq_false_iff_ne.mpr c36
       have c36b1 : ((t495.length : Int) != 0) = true := bne_iff_ne.mpr c36
       have c36b2 : ¬ (t495 = []) := fun h_ => c36 (by rw [h_]; rfl)
       obtain rfl := Option.some.inj H
       obtain ⟨Ao40, co40, eo40⟩ := Kd.R_slice HO_5.out
       subst eo40
       go_wp2
       go_ret
       exact ⟨by first | rfl | (simp [errW_none, errW_some] <;> rfl) | (simp [*, errW_none, errW_some] <;> rfl), HB.out⟩

/-- THE ONE PURE STATEMENT of laws_FnReadTerm: yours. -/
def laws_FnReadTerm.Pure : Prop := ∀ (l0 : List Int), l0.length ≤ maxLen → l0.length * 1 ≤ 140737488351232 → (∀ x ∈ l0, (Lit.int .u8 x).wf = true) → ∃ k, laws_FnReadTerm.f k l0 = some true
theorem laws_FnReadTerm.walk (P : laws_FnReadTerm.Pure) (a0 : Option Addr) (len0 cap0 : Nat) (z0 : List Int) (w : World) (w0 : (a0 = none ∧ len0 = 0 ∧ cap0 = 0 ∧ z0 = []) ∨ ∃ x, a0 = some x ∧ len0 ≤ cap0 ∧ cap0 ≤ maxLen ∧ z0.length = cap0 ∧ (∀ i, i < z0.length → w.cell? (x.add i) = some (.int .u8 (z0.getD i 0))) ∧ ∀ n ∈ z0, (Lit.int .u8 n).wf = true) (y0 : len0 * 1 ≤ 140737488351232) :
  Calls Try.prog 14 #[.slice a0 len0 cap0] w fun e w' => e = .returned (.bool true) ∧ Below w.heap.size w w' := by
 obtain ⟨l0, rfl, hr0, hm0, hw0, hc0⟩ := ReadsInt.ofRowC w0
 obtain ⟨k, h⟩ := P l0 hm0 y0 hw0
 refine (laws_FnReadTerm.calls k _ _ l0 true w (Kd.C_of_reads (d := (0 : Int)) (h1 := fun _ => rfl) hr0) hc0 h).mono ?_
 rintro e w' ⟨rfl, hd⟩
 exact ⟨rfl, hd⟩

end Go.Proofs.Ytpnloocdeljmhaa.PFnReadTerm
