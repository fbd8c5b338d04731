/- Walks of the functions that the law FnTermWays reaches, written by a program of this session. No condition but those that each states. -/
import Derived.Test.YtojaioejdfibhaaOFnTermWaysx0
import Derived.Test.YtojaioejdfibhaaOFnTermWaysx2
import Derived.Test.YtojaioejdfibhaaOFnTermWaysx7
import Derived.Test.YtojaioejdfibhaaOFnTermWaysx8
import Derived.Test.YtojaioejdfibhaaOFnTermWaysx9
import Derived.Test.YtojaioejdfibhaaOFnTermWaysx10
import Derived.Test.YtojaioejdfibhaaOFnTermWaysx11
namespace Go.Proofs.Ytojaioejdfibhaa.PFnTermWays
open Go.RowKit Go.Proofs.YtojaioejdfibhaaW.PrintWords Go.Proofs.YtojaioejdfibhaaW.PrintLast Go.Proofs.YtojaioejdfibhaaW.PrintMore
attribute [local go_sem] max2_int min2_int max_two min_two max_three min_three max_four min_four   -- for this text's walks alone
set_option linter.unusedVariables false
set_option linter.unusedSimpArgs false

/-! ### spec_l20Part: function 86 -/
mutual
def spec_l20Part.j0 : Nat → Int → Int → Int → Bool → List Int → Int → Option ((List (S42)) × Int)
 | 0, _, _, _, _, _, _ => none
 | k + 1, x1, x2, x3, x17, x1000, x1001 => if x17 = true then ((spec_l20Rd_pick.f k x1000 x1001 (wrap64 (x2 - 1))).bind fun bt437 => ((spec_l20Part.f k x1000 bt437.2 x1 (wrap64 (1 + bt437.1)) x3).bind fun bt439 => ((spec_l20Part.f k x1000 bt439.2 x1 (wrap64 (x2 - (wrap64 (1 + bt437.1)))) x3).bind fun bt443 => (if bt439.1.length + bt443.1.length < 8796093022208 then ((some (bt439.1 ++ bt443.1 : List (S42))).bind fun y447 => (if y447.length < 8796093022208 then (some ((y447 ++ [(⟨2, 0⟩ : S42)]), bt443.2)) else (none))) else (none))))) else (if x3 > 0 then ((spec_l20Rd_pick.f k x1000 x1001 3).bind fun bt453 => (spec_l20Part.j1 k x1 x2 x3 (bt453.1 == 0) x1000 bt453.2)) else (spec_l20Part.j1 k x1 x2 x3 false x1000 x1001))
def spec_l20Part.j1 : Nat → Int → Int → Int → Bool → List Int → Int → Option ((List (S42)) × Int)
 | 0, _, _, _, _, _, _ => none
 | k + 1, x1, x2, x3, x45, x1000, x1001 => if x45 = true then ((spec_l20Part.f k x1000 x1001 x1 x2 (wrap64 (x3 - 1))).bind fun bt455 => ((spec_l20Part.f k x1000 bt455.2 x1 x2 0).bind fun bt459 => (if bt455.1.length + bt459.1.length < 8796093022208 then ((some (bt455.1 ++ bt459.1 : List (S42))).bind fun y463 => (if y463.length < 8796093022208 then (some ((y463 ++ [(⟨3, 0⟩ : S42)]), bt459.2)) else (none))) else (none)))) else (if x2 = 1 then ((spec_l20Rd_pick.f k x1000 x1001 4).bind fun bt469 => (if bt469.1 = 0 then (some ((([(⟨1, 0⟩ : S42)] : List (S42))), bt469.2)) else ((spec_l20Rd_pick.f k x1000 bt469.2 (mx x1 1)).bind fun bt474 => (some ((([(⟨0, bt474.1⟩ : S42)] : List (S42))), bt474.2))))) else ((spec_l20Rd_pick.f k x1000 x1001 (wrap64 (x2 - 1))).bind fun bt479 => ((spec_l20Part.f k x1000 bt479.2 x1 (wrap64 (1 + bt479.1)) 0).bind fun bt481 => ((spec_l20Part.f k x1000 bt481.2 x1 (wrap64 (x2 - (wrap64 (1 + bt479.1)))) 0).bind fun bt485 => (if bt481.1.length + bt485.1.length < 8796093022208 then ((some (bt481.1 ++ bt485.1 : List (S42))).bind fun y489 => (if y489.length < 8796093022208 then (some ((y489 ++ [(⟨2, 0⟩ : S42)]), bt485.2)) else (none))) else (none))))))
def spec_l20Part.f : Nat → List Int → Int → Int → Int → Int → Option ((List (S42)) × Int)
 | 0, _, _, _, _, _ => none
 | k + 1, s0_0, s0_1, a1, a2, a3 => if a2 > 1 then ((spec_l20Rd_pick.f k s0_0 s0_1 3).bind fun bt435 => (spec_l20Part.j0 k a1 a2 a3 (decide (bt435.1 > 0)) s0_0 bt435.2)) else (spec_l20Part.j0 k a1 a2 a3 false s0_0 s0_1)
end
set_option maxHeartbeats 8000000 in
set_option maxRecDepth 100000 in
theorem spec_l20Part.calls (k : Nat) : ∀ (g : Nat) (s0_0 : List Int) (s0_1 : Int) (a1 : Int) (a2 : Int) (a3 : Int) (r1 : List (S42)) (r2 : Int) (w0 w : World) (hI : IsS90 w0 w g s0_0 s0_1) (hB : Below w0.heap.size w0 w) (h : spec_l20Part.f k s0_0 s0_1 a1 a2 a3 = some (r1, r2)),
  Calls Try.prog 86 #[.pointer (some ⟨g, 0, none⟩), .int .i64 a1, .int .i64 a2, .int .i64 a3] w fun e w' => ∃ v0_ : Value, e = .returned (v0_) ∧ Kd.R k42 42 w' w.heap.size (fun _ => True) v0_ r1 ∧ IsS90 w0 w' g s0_0 r2 ∧ Below w0.heap.size w0 w' ∧ KeepBut w w' g none := by
 induction k using Nat.strongRecOn with
 | _ k ih =>
 intro g s0_0 s0_1 a1 a2 a3 r1 r2 w0 w hI hB h
 cases k with
 | zero => exact absurd h (by simp [spec_l20Part.f])
 | succ k =>
 simp only [spec_l20Part.f] at h
 have hu42 := Try.underlying42
 have HI0 := Aside0.mk hI
 have HK := Aside0.mk (KeepBut.refl w g none)
 have HL := Aside0.mk hB.size
 clear hI
 have HW0 := Aside0.mk hB.size
 have HB := Aside0.mk hB
 clear hB
 have H : (if a2 > 1 then ((spec_l20Rd_pick.f k s0_0 s0_1 3).bind fun bt435 => (spec_l20Part.j0 k a1 a2 a3 (decide (bt435.1 > 0)) s0_0 bt435.2)) else (spec_l20Part.j0 k a1 a2 a3 false s0_0 s0_1)) = some (r1, r2) := h
 clear h
 have HC5 := Aside0.mk H
 clear H
 go_enter Try.func86, Try.ntmps86
 go_upto_region 1 with (fail)
 go_cut [17] (fun v17 wc => ∃ (kq : Nat) (x17_4 : Bool) (x1001_4 : Int), v17 = .bool x17_4 ∧ Aside0 (spec_l20Part.j0 kq a1 a2 a3 x17_4 s0_0 x1001_4 = some (r1, r2)) ∧ Aside0 (kq ≤ k) ∧ Aside0 (IsS90 w0 wc g s0_0 x1001_4) ∧ Aside0 (KeepBut w wc g none) ∧ Aside0 (Below w0.heap.size w0 wc))
 case first =>
  have H := HC5.out
  clear HC5
  by_cases c6 : a2 > 1
  ·rw [if_pos c6] at H
   have c6b0 : decide (1 < a2) = true := decide_eq_true c6
   clear c6
   (first | rw [c6b0] | (simp only [i64_w, i32_w]; rw [c6b0]) | skip)
   replace H := Option.bind_eq_some_iff.mp H
   obtain ⟨⟨t435, t436⟩, A70, H⟩ := H
   replace H : (spec_l20Part.j0 k a1 a2 a3 (decide (t435 > 0)) s0_0 t436) = some (r1, r2) := H
   have A7 := Aside0.mk A70
   clear A70
   have H' := Aside0.mk H
   clear H
   go_wp2_with (first | (go_at_call 72; (with_reducible refine (spec_l20Rd_pick.calls k g s0_0 s0_1 3 t435 t436 w0 _ ?side1 ?side2 A7.out).mono ?_); (case side1 => repeat (first | (with_reducible first | exact HI0.out | apply IsS90.alloc | apply IsS90.drewN | apply IsS90.drew | apply IsS90.set_1) | exact HI0.out)); (case side2 => repeat (first | (with_reducible first | exact HB.out | apply below_alloc | apply pw_below_drewN | apply below_drew1 | refine below_set ?_ (IsS90.ge HI0.out)) | exact HB.out)); rintro e w8 ⟨rfl, hi, hb, hk⟩; have n0_ := Aside0.mk (KeepBut.trans (by repeat (first | (with_reducible first | exact HK.out | apply KeepBut.set_ | apply keep_drewN | apply keep_drew | apply keep_alloc) | exact HK.out)) hk (.inl rfl)); have n1_ := Aside0.mk (hb); have n2_ := Aside0.mk (hi); clear HK; clear HB; clear HI0; have HK := n0_; have HB := n1_; have HI0 := n2_; clear n0_ n1_ n2_))
   go_meet
   case rel => exact ⟨_, (decide (t435 > 0)), (t436), (by first | rfl | (simp; done) | (simp [*]; done)), H', ⟨by first | omega | exact Nat.le_refl _⟩, ⟨by repeat (first | (with_reducible first | exact HI0.out | apply IsS90.alloc | apply IsS90.drewN | apply IsS90.drew | apply IsS90.set_1) | exact HI0.out)⟩, ⟨by repeat (first | (with_reducible first | exact HK.out | apply KeepBut.set_ | apply keep_drewN | apply keep_drew | apply keep_alloc) | exact HK.out)⟩, ⟨by repeat (first | (with_reducible first | exact HB.out | apply below_alloc | apply pw_below_drewN | apply below_drew1 | refine below_set ?_ (IsS90.ge HI0.out)) | exact HB.out)⟩⟩
  ·rw [if_neg c6] at H
   have c6b0 : decide (1 < a2) = false := decide_eq_false c6
   clear c6
   (first | rw [c6b0] | (simp only [i64_w, i32_w]; rw [c6b0]) | skip)
   have H' := Aside0.mk H
   clear H
   go_wp2
   go_meet
   case rel => exact ⟨_, (false), (s0_1), (by first | rfl | (simp; done) | (simp [*]; done)), H', ⟨by first | omega | exact Nat.le_refl _⟩, ⟨by repeat (first | (with_reducible first | exact HI0.out | apply IsS90.alloc | apply IsS90.drewN | apply IsS90.drew | apply IsS90.set_1) | exact HI0.out)⟩, ⟨by repeat (first | (with_reducible first | exact HK.out | apply KeepBut.set_ | apply keep_drewN | apply keep_drew | apply keep_alloc) | exact HK.out)⟩, ⟨by repeat (first | (with_reducible first | exact HB.out | apply below_alloc | apply pw_below_drewN | apply below_drew1 | refine below_set ?_ (IsS90.ge HI0.out)) | exact HB.out)⟩⟩
 case rest =>
  clear HC5
  try clear p2
  try clear c6
  try clear c6b0
  try clear c8
  obtain ⟨kq, x17_4, x1001_4, rfl, HA, HJ4, HI0, HK, HB⟩ := hcut
  cases kq with
  | zero => exact absurd HA.out (by simp [spec_l20Part.j0])
  | succ kj4 =>
   have H := HA.out
   clear HA
   simp only [spec_l20Part.j0] at H
   by_cases c9 : x17_4 = true
   ·subst c9
    have H1 : ((spec_l20Rd_pick.f kj4 s0_0 x1001_4 (wrap64 (a2 - 1))).bind fun bt437 => ((spec_l20Part.f kj4 s0_0 bt437.2 a1 (wrap64 (1 + bt437.1)) a3).bind fun bt439 => ((spec_l20Part.f kj4 s0_0 bt439.2 a1 (wrap64 (a2 - (wrap64 (1 + bt437.1)))) a3).bind fun bt443 => (if bt439.1.length + bt443.1.length < 8796093022208 then ((some (bt439.1 ++ bt443.1 : List (S42))).bind fun y447 => (if y447.length < 8796093022208 then (some ((y447 ++ [(⟨2, 0⟩ : S42)]), bt443.2)) else (none))) else (none))))) = some (r1, r2) := by rw [if_pos rfl] at H; exact H
    clear H
    have H := H1
    clear H1
    replace H := Option.bind_eq_some_iff.mp H
    obtain ⟨⟨t437, t438⟩, A100, H⟩ := H
    replace H : ((spec_l20Part.f kj4 s0_0 t438 a1 (wrap64 (1 + t437)) a3).bind fun bt439 => ((spec_l20Part.f kj4 s0_0 bt439.2 a1 (wrap64 (a2 - (wrap64 (1 + t437)))) a3).bind fun bt443 => (if bt439.1.length + bt443.1.length < 8796093022208 then ((some (bt439.1 ++ bt443.1 : List (S42))).bind fun y447 => (if y447.length < 8796093022208 then (some ((y447 ++ [(⟨2, 0⟩ : S42)]), bt443.2)) else (none))) else (none)))) = some (r1, r2) := H
    have A10 := Aside0.mk A100
    clear A100
    replace H := Option.bind_eq_some_iff.mp H
    obtain ⟨⟨t439, t442⟩, A110, H⟩ := H
    replace H : ((spec_l20Part.f kj4 s0_0 t442 a1 (wrap64 (a2 - (wrap64 (1 + t437)))) a3).bind fun bt443 => (if t439.length + bt443.1.length < 8796093022208 then ((some (t439 ++ bt443.1 : List (S42))).bind fun y447 => (if y447.length < 8796093022208 then (some ((y447 ++ [(⟨2, 0⟩ : S42)]), bt443.2)) else (none))) else (none))) = some (r1, r2) := H
    have A11 := Aside0.mk A110
    clear A110
    replace H := Option.bind_eq_some_iff.mp H
    obtain ⟨⟨t443, t446⟩, A120, H⟩ := H
    replace H : (if t439.length + t443.length < 8796093022208 then ((some (t439 ++ t443 : List (S42))).bind fun y447 => (if y447.length < 8796093022208 then (some ((y447 ++ [(⟨2, 0⟩ : S42)]), t446)) else (none))) else (none)) = some (r1, r2) := H
    have A12 := Aside0.mk A120
    clear A120
    by_cases c13 : t439.length + t443.length < 8796093022208
    ·rw [if_pos c13] at H
     have LMc13 := Aside0.mk c13
     clear c13
     obtain ⟨y447, hy447⟩ : ∃ y_ : List (S42), y_ = (t439 ++ t443) := ⟨_, rfl⟩
     replace H : (if y447.length < 8796093022208 then (some ((y447 ++ [(⟨2, 0⟩ : S42)]), t446)) else (none)) = some (r1, r2) := by first | (rw [hy447]; with_reducible exact H) | (have H2_ := (Option.bind_some _ _).symm.trans H; rw [hy447]; with_reducible exact H2_) | (have H2_ := (Option.bind_some _ _).symm.trans H; with_reducible exact H2_) | with_reducible exact H | (rw [hy447]; exact H) | exact H
     have Ny447 := Aside0.mk hy447
     clear hy447
     by_cases c14 : y447.length < 8796093022208
     ·rw [if_pos c14] at H
      have LMc14 := Aside0.mk c14
      clear c14
      obtain ⟨y450, hy450⟩ : ∃ y_ : List (S42), y_ = (y447 ++ [(⟨2, 0⟩ : S42)]) := ⟨_, rfl⟩
      replace H : (some (y450, t446)) = some (r1, r2) := by first | (rw [hy450]; with_reducible exact H) | (have H2_ := (Option.bind_some _ _).symm.trans H; rw [hy450]; with_reducible exact H2_) | (have H2_ := (Option.bind_some _ _).symm.trans H; with_reducible exact H2_) | with_reducible exact H | (rw [hy450]; exact H) | exact H
      have Ny450 := Aside0.mk hy450
      clear hy450
      simp only [Option.some.injEq, Prod.mk.injEq] at H
      obtain ⟨rfl, rfl⟩ := H
      go_wp2_with (first | ((with_reducible refine gate_callee (f := 72) rfl ?_); refine goesL_ (some 21) rfl rfl Try.func72 (by kernel_rfl) rfl #[.pointer (some ⟨g, 0, none⟩), .int .i64 (wrap64 (a2 - 1))] rfl (by (try simp only [List.map_toArray, List.map_cons, List.map_nil]); first | done | rfl) ?_; (with_reducible refine (spec_l20Rd_pick.calls kj4 g s0_0 x1001_4 (wrap64 (a2 - 1)) t437 t438 w0 _ ?side1 ?side2 A10.out).mono ?_); (case side1 => repeat (first | (with_reducible first | exact HI0.out | apply IsS90.alloc | apply IsS90.drewN | apply IsS90.drew | apply IsS90.set_1) | exact HI0.out)); (case side2 => repeat (first | (with_reducible first | exact HB.out | apply below_alloc | apply pw_below_drewN | apply below_drew1 | refine below_set ?_ (IsS90.ge HI0.out)) | exact HB.out)); rintro e w15 ⟨rfl, hi, hb, hk⟩; refine ⟨_, rfl, ?_⟩; have n0_ := Aside0.mk (KeepBut.trans (by repeat (first | (with_reducible first | exact HK.out | apply KeepBut.set_ | apply keep_drewN | apply keep_drew | apply keep_alloc) | exact HK.out)) hk (.inl rfl)); have n1_ := Aside0.mk (hb); have n2_ := Aside0.mk (hi); clear HK; clear HB; clear HI0; have HK := n0_; have HB := n1_; have HI0 := n2_; clear n0_ n1_ n2_) | ((with_reducible refine gate_callee (f := 86) rfl ?_); refine goesL_ (some 27) rfl rfl Try.func86 (by kernel_rfl) rfl #[.pointer (some ⟨g, 0, none⟩), .int .i64 a1, .int .i64 (wrap64 (1 + t437)), .int .i64 a3] rfl (by (try simp only [List.map_toArray, List.map_cons, List.map_nil]); first | done | rfl) ?_; (with_reducible refine (ih kj4 (by have := HJ4.out; omega) g s0_0 t438 a1 (wrap64 (1 + t437)) a3 t439 t442 w0 _ ?side1 ?side2 A11.out).mono ?_); (case side1 => repeat (first | (with_reducible first | exact HI0.out | apply IsS90.alloc | apply IsS90.drewN | apply IsS90.drew | apply IsS90.set_1) | exact HI0.out)); (case side2 => repeat (first | (with_reducible first | exact HB.out | apply below_alloc | apply pw_below_drewN | apply below_drew1 | refine below_set ?_ (IsS90.ge HI0.out)) | exact HB.out)); rintro e w16 ⟨v440, rfl, ho0, hi, hb, hk⟩; refine ⟨_, rfl, ?_⟩; have n0_ := Aside0.mk (Kd.R_lower ho0 (keep_size (w := w) (g := g) (row := none) (by repeat (first | (with_reducible first | exact HK.out | apply KeepBut.set_ | apply keep_drewN | apply keep_drew | apply keep_alloc) | exact HK.out)))); have n1_ := Aside0.mk (KeepBut.trans (by repeat (first | (with_reducible first | exact HK.out | apply KeepBut.set_ | apply keep_drewN | apply keep_drew | apply keep_alloc) | exact HK.out)) hk (.inl rfl)); have n2_ := Aside0.mk (hb); have n3_ := Aside0.mk (hi); clear HK; clear HB; clear HI0; have HO441 := n0_; have HK := n1_; have HB := n2_; have HI0 := n3_; clear n0_ n1_ n2_ n3_; (try clear ho0)) | ((with_reducible refine gate_callee (f := 86) rfl ?_); refine goesL_ (some 34) rfl rfl Try.func86 (by kernel_rfl) rfl #[.pointer (some ⟨g, 0, none⟩), .int .i64 a1, .int .i64 (wrap64 (a2 - (wrap64 (1 + t437)))), .int .i64 a3] rfl (by (try simp only [List.map_toArray, List.map_cons, List.map_nil]); first | done | rfl) ?_; (with_reducible refine (ih kj4 (by have := HJ4.out; omega) g s0_0 t442 a1 (wrap64 (a2 - (wrap64 (1 + t437)))) a3 t443 t446 w0 _ ?side1 ?side2 A12.out).mono ?_); (case side1 => repeat (first | (with_reducible first | exact HI0.out | apply IsS90.alloc | apply IsS90.drewN | apply IsS90.drew | apply IsS90.set_1) | exact HI0.out)); (case side2 => repeat (first | (with_reducible first | exact HB.out | apply below_alloc | apply pw_below_drewN | apply below_drew1 | refine below_set ?_ (IsS90.ge HI0.out)) | exact HB.out)); rintro e w17 ⟨v444, rfl, ho0, hi, hb, hk⟩; refine ⟨_, rfl, ?_⟩; have n0_ := Aside0.mk (Kd.R_mono (Kd.R_told (Kd.R_oldK (IsS90.apart (show IsS90 w0 _ g s0_0 t442 from by repeat (first | (with_reducible first | exact HI0.out | apply IsS90.alloc | apply IsS90.drewN | apply IsS90.drew | apply IsS90.set_1) | exact HI0.out)) (by (with_reducible repeat (first | apply Kd.R_alloc | apply Kd.R_drewN | apply Kd.R_drew)); exact HO441.out) (by decide)) hk) (Kd.R_base ho0)) (fun _ h_ => h_.1)); have n1_ := Aside0.mk (Kd.R_lower (Kd.R_new' ho0 (Kd.R_lt (by (with_reducible repeat (first | apply Kd.R_alloc | apply Kd.R_drewN | apply Kd.R_drew)); exact HO441.out))) (keep_size (w := w) (g := g) (row := none) (by repeat (first | (with_reducible first | exact HK.out | apply KeepBut.set_ | apply keep_drewN | apply keep_drew | apply keep_alloc) | exact HK.out)))); have n2_ := Aside0.mk (KeepBut.trans (by repeat (first | (with_reducible first | exact HK.out | apply KeepBut.set_ | apply keep_drewN | apply keep_drew | apply keep_alloc) | exact HK.out)) hk (.inl rfl)); have n3_ := Aside0.mk (hb); have n4_ := Aside0.mk (hi); clear HO441; clear HK; clear HB; clear HI0; have HO441 := n0_; have HO445 := n1_; have HK := n2_; have HB := n3_; have HI0 := n4_; clear n0_ n1_ n2_ n3_ n4_; (try clear ho0); obtain ⟨Ao19, co19, eo19⟩ := Kd.R_slice HO445.out; subst eo19) | ((with_reducible refine gate_builtin (b := .append) (xs := #[.tmp 27, .tmp 34]) rfl ?_); at_builtin; refine Kd.R_append_rows k42 w.heap.size rfl (.tmp 27) (.tmp 34) 30 42 (.agg #[(.int .i64 0), (.int .i64 0)]) 16 rfl Try.underlying30 info42 rfl (by decide) (by omega) v440 t439 t443 _ _ _ (fun k_ => some k_ ≠ (.slice Ao19 t443.length co19 : Value).ownBlock) (fun _ => False) rfl rfl ?aO ?aR (fun _ _ h => h) (fun _ h => h.elim) ?aF (Below.refl _ _) ?aS ?aL ?_; (case aR => repeat (first | exact (Kd.R_reads' HO445.out).2.2 | (with_reducible refine Kd.C_alloc ?_ _) | (with_reducible refine Kd.C_drewN ?_ _) | (with_reducible refine Kd.C_drew ?_))); (case aF => exact (fun k_ hk => Kd.fresh' (Kd.R_lt (by (with_reducible repeat (first | apply Kd.R_alloc | apply Kd.R_drewN | apply Kd.R_drew)); exact HO445.out)) k_ hk)); (case aO => exact (by (with_reducible repeat (first | apply Kd.R_alloc | apply Kd.R_drewN | apply Kd.R_drew)); exact Kd.R_mono HO441.out (fun _ hk => hk.2))); (case aS => exact (keep_size (w := w) (g := g) (row := none) (by repeat (first | (with_reducible first | exact HK.out | apply KeepBut.set_ | apply keep_drewN | apply keep_drew | apply keep_alloc) | exact HK.out)))); (case aL => have := LMc13.out; omega); intro v448 w18 ho hb hg hat; rw [← Ny447.out] at ho; have n0_ := Aside0.mk (IsS90.grown (by repeat (first | (with_reducible first | exact HI0.out | apply IsS90.alloc | apply IsS90.drewN | apply IsS90.drew | apply IsS90.set_1) | exact HI0.out)) hg (IsS90.own_ne HI0.out HO441.out (by decide))); have n1_ := Aside0.mk (Kd.R_after (ok := (fun _ => True)) (by (with_reducible repeat (first | apply Kd.R_alloc | apply Kd.R_drewN | apply Kd.R_drew)); exact HO445.out) hg hat); have n2_ := Aside0.mk (below_weaken (by repeat (first | (with_reducible first | exact HB.out | apply below_alloc | apply pw_below_drewN | apply below_drew1 | refine below_set ?_ (IsS90.ge HI0.out)) | exact HB.out)) HL.out hb); have n3_ := Aside0.mk (KeepBut.trans (by repeat (first | (with_reducible first | exact HK.out | apply KeepBut.set_ | apply keep_drewN | apply keep_drew | apply keep_alloc) | exact HK.out)) (KeepBut.of_grown hg g) (Kd.R_base2 HO441.out)); have n4_ := Aside0.mk (ho); clear HI0; clear HO445; clear HB; clear HK; clear HO441; have HI0 := n0_; have HO445 := n1_; have HB := n2_; have HK := n3_; have HO449 := n4_; clear n0_ n1_ n2_ n3_ n4_; clear ho hb hg hat) | ((with_reducible refine gate_builtin (b := .append) (xs := #[.tmp 35, .tmp 37]) rfl ?_); at_builtin; refine Kd.R_append k42 w.heap.size rfl (.tmp 35) (.tmp 37) 30 42 (.agg #[(.int .i64 0), (.int .i64 0)]) 16 rfl Try.underlying30 info42 rfl (by decide) (by omega) v448 y447 (⟨2, 0⟩ : S42) [.int .i64 2, .int .i64 0] (fun k_ => some k_ ≠ (.slice Ao19 t443.length co19 : Value).ownBlock) (fun _ => False) rfl rfl ?aP (fun _ hk => hk.elim) ?aF ?aO (Below.refl _ _) ?aS ?aL ?_; (case aP => exact k42_mkM _ _ _ (⟨2, 0⟩ : S42)); (case aF => exact (fun k_ hk => Kd.fresh' (Kd.R_lt (by (with_reducible repeat (first | apply Kd.R_alloc | apply Kd.R_drewN | apply Kd.R_drew)); exact HO445.out)) k_ hk)); (case aO => exact (by (with_reducible repeat (first | apply Kd.R_alloc | apply Kd.R_drewN | apply Kd.R_drew)); exact HO449.out)); (case aS => exact (keep_size (w := w) (g := g) (row := none) (by repeat (first | (with_reducible first | exact HK.out | apply KeepBut.set_ | apply keep_drewN | apply keep_drew | apply keep_alloc) | exact HK.out)))); (case aL => have := LMc14.out; omega); intro v451 w20 ho hb hg hat; rw [← Ny450.out] at ho; have n0_ := Aside0.mk (IsS90.grown (by repeat (first | (with_reducible first | exact HI0.out | apply IsS90.alloc | apply IsS90.drewN | apply IsS90.drew | apply IsS90.set_1) | exact HI0.out)) hg (IsS90.own_ne HI0.out HO449.out (by decide))); have n1_ := Aside0.mk (Kd.R_after (ok := (fun _ => True)) (by (with_reducible repeat (first | apply Kd.R_alloc | apply Kd.R_drewN | apply Kd.R_drew)); exact HO445.out) hg hat); have n2_ := Aside0.mk (below_weaken (by repeat (first | (with_reducible first | exact HB.out | apply below_alloc | apply pw_below_drewN | apply below_drew1 | refine below_set ?_ (IsS90.ge HI0.out)) | exact HB.out)) HL.out hb); have n3_ := Aside0.mk (KeepBut.trans (by repeat (first | (with_reducible first | exact HK.out | apply KeepBut.set_ | apply keep_drewN | apply keep_drew | apply keep_alloc) | exact HK.out)) (KeepBut.of_grown hg g) (Kd.R_base2 HO449.out)); have n4_ := Aside0.mk (ho); clear HI0; clear HO445; clear HB; clear HK; clear HO449; have HI0 := n0_; have HO445 := n1_; have HB := n2_; have HK := n3_; have HO452 := n4_; clear n0_ n1_ n2_ n3_ n4_; clear ho hb hg hat))
      go_ret
      exact ⟨_, by first | rfl | (simp [errW_none, errW_some] <;> rfl) | (simp [*, errW_none, errW_some] <;> rfl), by (with_reducible repeat (first | apply Kd.R_alloc | apply Kd.R_drewN | apply Kd.R_drew)); exact Kd.R_mono HO452.out (fun _ hk => trivial), by repeat (first | (with_reducible first | exact HI0.out | apply IsS90.alloc | apply IsS90.drewN | apply IsS90.drew | apply IsS90.set_1) | exact HI0.out), by repeat (first | (with_reducible first | exact HB.out | apply below_alloc | apply pw_below_drewN | apply below_drew1 | refine below_set ?_ (IsS90.ge HI0.out)) | exact HB.out), by repeat (first | (with_reducible first | exact HK.out | apply KeepBut.set_ | apply keep_drewN | apply keep_drew | apply keep_alloc) | exact HK.out)⟩
     ·rw [if_neg c14] at H
      exact absurd H (by simp)
    ·rw [if_neg c13] at H
     exact absurd H (by simp)
   ·replace c9 := Bool.eq_false_iff.mpr c9
    subst c9
    have H1 : (if a3 > 0 then ((spec_l20Rd_pick.f kj4 s0_0 x1001_4 3).bind fun bt453 => (spec_l20Part.j1 kj4 a1 a2 a3 (bt453.1 == 0) s0_0 bt453.2)) else (spec_l20Part.j1 kj4 a1 a2 a3 false s0_0 x1001_4)) = some (r1, r2) := by rw [if_neg (show ¬ (false = true) by decide)] at H; exact H
    clear H
    have H := H1
    clear H1
    have HC21 := Aside0.mk H
    clear H
    go_upto_region 4 with (fail)
    go_cut [45] (fun v45 wc => ∃ (kq : Nat) (x45_20 : Bool) (x1001_20 : Int), v45 = .bool x45_20 ∧ Aside0 (spec_l20Part.j1 kq a1 a2 a3 x45_20 s0_0 x1001_20 = some (r1, r2)) ∧ Aside0 (kq ≤ kj4) ∧ Aside0 (IsS90 w0 wc g s0_0 x1001_20) ∧ Aside0 (KeepBut w wc g none) ∧ Aside0 (Below w0.heap.size w0 wc))
    case first =>
     have H := HC21.out
     clear HC21
     by_cases c22 : a3 > 0
     ·rw [if_pos c22] at H
      have c22b0 : decide (0 < a3) = true := decide_eq_true c22
      clear c22
      (first | rw [c22b0] | (simp only [i64_w, i32_w]; rw [c22b0]) | skip)
      replace H := Option.bind_eq_some_iff.mp H
      obtain ⟨⟨t453, t454⟩, A230, H⟩ := H
      replace H : (spec_l20Part.j1 kj4 a1 a2 a3 (t453 == 0) s0_0 t454) = some (r1, r2) := H
      have A23 := Aside0.mk A230
      clear A230
      have H' := Aside0.mk H
      clear H
      go_wp2_with (first | (go_at_call 72; (with_reducible refine (spec_l20Rd_pick.calls kj4 g s0_0 x1001_4 3 t453 t454 w0 _ ?side1 ?side2 A23.out).mono ?_); (case side1 => repeat (first | (with_reducible first | exact HI0.out | apply IsS90.alloc | apply IsS90.drewN | apply IsS90.drew | apply IsS90.set_1) | exact HI0.out)); (case side2 => repeat (first | (with_reducible first | exact HB.out | apply below_alloc | apply pw_below_drewN | apply below_drew1 | refine below_set ?_ (IsS90.ge HI0.out)) | exact HB.out)); rintro e w24 ⟨rfl, hi, hb, hk⟩; have n0_ := Aside0.mk (KeepBut.trans (by repeat (first | (with_reducible first | exact HK.out | apply KeepBut.set_ | apply keep_drewN | apply keep_drew | apply keep_alloc) | exact HK.out)) hk (.inl rfl)); have n1_ := Aside0.mk (hb); have n2_ := Aside0.mk (hi); clear HK; clear HB; clear HI0; have HK := n0_; have HB := n1_; have HI0 := n2_; clear n0_ n1_ n2_))
      go_meet
      case rel => exact ⟨_, ((t453 == 0)), (t454), (by first | rfl | (simp; done) | (simp [*]; done)), H', ⟨by have := HJ4.out; first | omega | exact Nat.le_refl _⟩, ⟨by repeat (first | (with_reducible first | exact HI0.out | apply IsS90.alloc | apply IsS90.drewN | apply IsS90.drew | apply IsS90.set_1) | exact HI0.out)⟩, ⟨by repeat (first | (with_reducible first | exact HK.out | apply KeepBut.set_ | apply keep_drewN | apply keep_drew | apply keep_alloc) | exact HK.out)⟩, ⟨by repeat (first | (with_reducible first | exact HB.out | apply below_alloc | apply pw_below_drewN | apply below_drew1 | refine below_set ?_ (IsS90.ge HI0.out)) | exact HB.out)⟩⟩
     ·rw [if_neg c22] at H
      have c22b0 : decide (0 < a3) = false := decide_eq_false c22
      clear c22
      (first | rw [c22b0] | (simp only [i64_w, i32_w]; rw [c22b0]) | skip)
      have H' := Aside0.mk H
      clear H
      go_wp2
      go_meet
      case rel => exact ⟨_, (false), (x1001_4), (by first | rfl | (simp; done) | (simp [*]; done)), H', ⟨by have := HJ4.out; first | omega | exact Nat.le_refl _⟩, ⟨by repeat (first | (with_reducible first | exact HI0.out | apply IsS90.alloc | apply IsS90.drewN | apply IsS90.drew | apply IsS90.set_1) | exact HI0.out)⟩, ⟨by repeat (first | (with_reducible first | exact HK.out | apply KeepBut.set_ | apply keep_drewN | apply keep_drew | apply keep_alloc) | exact HK.out)⟩, ⟨by repeat (first | (with_reducible first | exact HB.out | apply below_alloc | apply pw_below_drewN | apply below_drew1 | refine below_set ?_ (IsS90.ge HI0.out)) | exact HB.out)⟩⟩
    case rest =>
     clear HC21
     try clear c1
     try clear c2
     try clear p2
     try clear c6
     try clear c6b0
     try clear p6
     try clear c7
     try clear c8
     try clear c9
     try clear c13
     try clear c14
     try clear c22
     try clear c22b0
     try clear p2
     obtain ⟨kq, x45_20, x1001_20, rfl, HA, HJ20, HI0, HK, HB⟩ := hcut
     cases kq with
     | zero => exact absurd HA.out (by simp [spec_l20Part.j1])
     | succ kj20 =>
      have H := HA.out
      clear HA
      simp only [spec_l20Part.j1] at H
      by_cases c25 : x45_20 = true
      ·subst c25
       have H1 : ((spec_l20Part.f kj20 s0_0 x1001_20 a1 a2 (wrap64 (a3 - 1))).bind fun bt455 => ((spec_l20Part.f kj20 s0_0 bt455.2 a1 a2 0).bind fun bt459 => (if bt455.1.length + bt459.1.length < 8796093022208 then ((some (bt455.1 ++ bt459.1 : List (S42))).bind fun y463 => (if y463.length < 8796093022208 then (some ((y463 ++ [(⟨3, 0⟩ : S42)]), bt459.2)) else (none))) else (none)))) = some (r1, r2) := by rw [if_pos rfl] at H; exact H
       clear H
       have H := H1
       clear H1
       replace H := Option.bind_eq_some_iff.mp H
       obtain ⟨⟨t455, t458⟩, A260, H⟩ := H
       replace H : ((spec_l20Part.f kj20 s0_0 t458 a1 a2 0).bind fun bt459 => (if t455.length + bt459.1.length < 8796093022208 then ((some (t455 ++ bt459.1 : List (S42))).bind fun y463 => (if y463.length < 8796093022208 then (some ((y463 ++ [(⟨3, 0⟩ : S42)]), bt459.2)) else (none))) else (none))) = some (r1, r2) := H
       have A26 := Aside0.mk A260
       clear A260
       replace H := Option.bind_eq_some_iff.mp H
       obtain ⟨⟨t459, t462⟩, A270, H⟩ := H
       replace H : (if t455.length + t459.length < 8796093022208 then ((some (t455 ++ t459 : List (S42))).bind fun y463 => (if y463.length < 8796093022208 then (some ((y463 ++ [(⟨3, 0⟩ : S42)]), t462)) else (none))) else (none)) = some (r1, r2) := H
       have A27 := Aside0.mk A270
       clear A270
       by_cases c28 : t455.length + t459.length < 8796093022208
       ·rw [if_pos c28] at H
        have LMc28 := Aside0.mk c28
        clear c28
        obtain ⟨y463, hy463⟩ : ∃ y_ : List (S42), y_ = (t455 ++ t459) := ⟨_, rfl⟩
        replace H : (if y463.length < 8796093022208 then (some ((y463 ++ [(⟨3, 0⟩ : S42)]), t462)) else (none)) = some (r1, r2) := by first | (rw [hy463]; with_reducible exact H) | (have H2_ := (Option.bind_some _ _).symm.trans H; rw [hy463]; with_reducible exact H2_) | (have H2_ := (Option.bind_some _ _).symm.trans H; with_reducible exact H2_) | with_reducible exact H | (rw [hy463]; exact H) | exact H
        have Ny463 := Aside0.mk hy463
        clear hy463
        by_cases c29 : y463.length < 8796093022208
        ·rw [if_pos c29] at H
         have LMc29 := Aside0.mk c29
         clear c29
         obtain ⟨y466, hy466⟩ : ∃ y_ : List (S42), y_ = (y463 ++ [(⟨3, 0⟩ : S42)]) := ⟨_, rfl⟩
         replace H : (some (y466, t462)) = some (r1, r2) := by first | (rw [hy466]; with_reducible exact H) | (have H2_ := (Option.bind_some _ _).symm.trans H; rw [hy466]; with_reducible exact H2_) | (have H2_ := (Option.bind_some _ _).symm.trans H; with_reducible exact H2_) | with_reducible exact H | (rw [hy466]; exact H) | exact H
         have Ny466 := Aside0.mk hy466
         clear hy466
         simp only [Option.some.injEq, Prod.mk.injEq] at H
         obtain ⟨rfl, rfl⟩ := H
         go_wp2_with (first | ((with_reducible refine gate_callee (f := 86) rfl ?_); refine goesL_ (some 51) rfl rfl Try.func86 (by kernel_rfl) rfl #[.pointer (some ⟨g, 0, none⟩), .int .i64 a1, .int .i64 a2, .int .i64 (wrap64 (a3 - 1))] rfl (by (try simp only [List.map_toArray, List.map_cons, List.map_nil]); first | done | rfl) ?_; (with_reducible refine (ih kj20 (by have := HJ4.out; have := HJ20.out; omega) g s0_0 x1001_20 a1 a2 (wrap64 (a3 - 1)) t455 t458 w0 _ ?side1 ?side2 A26.out).mono ?_); (case side1 => repeat (first | (with_reducible first | exact HI0.out | apply IsS90.alloc | apply IsS90.drewN | apply IsS90.drew | apply IsS90.set_1) | exact HI0.out)); (case side2 => repeat (first | (with_reducible first | exact HB.out | apply below_alloc | apply pw_below_drewN | apply below_drew1 | refine below_set ?_ (IsS90.ge HI0.out)) | exact HB.out)); rintro e w30 ⟨v456, rfl, ho0, hi, hb, hk⟩; refine ⟨_, rfl, ?_⟩; have n0_ := Aside0.mk (Kd.R_lower ho0 (keep_size (w := w) (g := g) (row := none) (by repeat (first | (with_reducible first | exact HK.out | apply KeepBut.set_ | apply keep_drewN | apply keep_drew | apply keep_alloc) | exact HK.out)))); have n1_ := Aside0.mk (KeepBut.trans (by repeat (first | (with_reducible first | exact HK.out | apply KeepBut.set_ | apply keep_drewN | apply keep_drew | apply keep_alloc) | exact HK.out)) hk (.inl rfl)); have n2_ := Aside0.mk (hb); have n3_ := Aside0.mk (hi); clear HK; clear HB; clear HI0; have HO457 := n0_; have HK := n1_; have HB := n2_; have HI0 := n3_; clear n0_ n1_ n2_ n3_; (try clear ho0)) | ((with_reducible refine gate_callee (f := 86) rfl ?_); refine goesL_ (some 55) rfl rfl Try.func86 (by kernel_rfl) rfl #[.pointer (some ⟨g, 0, none⟩), .int .i64 a1, .int .i64 a2, .int .i64 0] rfl (by (try simp only [List.map_toArray, List.map_cons, List.map_nil]); first | done | rfl) ?_; (with_reducible refine (ih kj20 (by have := HJ4.out; have := HJ20.out; omega) g s0_0 t458 a1 a2 0 t459 t462 w0 _ ?side1 ?side2 A27.out).mono ?_); (case side1 => repeat (first | (with_reducible first | exact HI0.out | apply IsS90.alloc | apply IsS90.drewN | apply IsS90.drew | apply IsS90.set_1) | exact HI0.out)); (case side2 => repeat (first | (with_reducible first | exact HB.out | apply below_alloc | apply pw_below_drewN | apply below_drew1 | refine below_set ?_ (IsS90.ge HI0.out)) | exact HB.out)); rintro e w31 ⟨v460, rfl, ho0, hi, hb, hk⟩; refine ⟨_, rfl, ?_⟩; have n0_ := Aside0.mk (Kd.R_mono (Kd.R_told (Kd.R_oldK (IsS90.apart (show IsS90 w0 _ g s0_0 t458 from by repeat (first | (with_reducible first | exact HI0.out | apply IsS90.alloc | apply IsS90.drewN | apply IsS90.drew | apply IsS90.set_1) | exact HI0.out)) (by (with_reducible repeat (first | apply Kd.R_alloc | apply Kd.R_drewN | apply Kd.R_drew)); exact HO457.out) (by decide)) hk) (Kd.R_base ho0)) (fun _ h_ => h_.1)); have n1_ := Aside0.mk (Kd.R_lower (Kd.R_new' ho0 (Kd.R_lt (by (with_reducible repeat (first | apply Kd.R_alloc | apply Kd.R_drewN | apply Kd.R_drew)); exact HO457.out))) (keep_size (w := w) (g := g) (row := none) (by repeat (first | (with_reducible first | exact HK.out | apply KeepBut.set_ | apply keep_drewN | apply keep_drew | apply keep_alloc) | exact HK.out)))); have n2_ := Aside0.mk (KeepBut.trans (by repeat (first | (with_reducible first | exact HK.out | apply KeepBut.set_ | apply keep_drewN | apply keep_drew | apply keep_alloc) | exact HK.out)) hk (.inl rfl)); have n3_ := Aside0.mk (hb); have n4_ := Aside0.mk (hi); clear HO457; clear HK; clear HB; clear HI0; have HO457 := n0_; have HO461 := n1_; have HK := n2_; have HB := n3_; have HI0 := n4_; clear n0_ n1_ n2_ n3_ n4_; (try clear ho0); obtain ⟨Ao33, co33, eo33⟩ := Kd.R_slice HO461.out; subst eo33) | ((with_reducible refine gate_builtin (b := .append) (xs := #[.tmp 51, .tmp 55]) rfl ?_); at_builtin; refine Kd.R_append_rows k42 w.heap.size rfl (.tmp 51) (.tmp 55) 30 42 (.agg #[(.int .i64 0), (.int .i64 0)]) 16 rfl Try.underlying30 info42 rfl (by decide) (by omega) v456 t455 t459 _ _ _ (fun k_ => some k_ ≠ (.slice Ao33 t459.length co33 : Value).ownBlock) (fun _ => False) rfl rfl ?aO ?aR (fun _ _ h => h) (fun _ h => h.elim) ?aF (Below.refl _ _) ?aS ?aL ?_; (case aR => repeat (first | exact (Kd.R_reads' HO461.out).2.2 | (with_reducible refine Kd.C_alloc ?_ _) | (with_reducible refine Kd.C_drewN ?_ _) | (with_reducible refine Kd.C_drew ?_))); (case aF => exact (fun k_ hk => Kd.fresh' (Kd.R_lt (by (with_reducible repeat (first | apply Kd.R_alloc | apply Kd.R_drewN | apply Kd.R_drew)); exact HO461.out)) k_ hk)); (case aO => exact (by (with_reducible repeat (first | apply Kd.R_alloc | apply Kd.R_drewN | apply Kd.R_drew)); exact Kd.R_mono HO457.out (fun _ hk => hk.2))); (case aS => exact (keep_size (w := w) (g := g) (row := none) (by repeat (first | (with_reducible first | exact HK.out | apply KeepBut.set_ | apply keep_drewN | apply keep_drew | apply keep_alloc) | exact HK.out)))); (case aL => have := LMc28.out; omega); intro v464 w32 ho hb hg hat; rw [← Ny463.out] at ho; have n0_ := Aside0.mk (IsS90.grown (by repeat (first | (with_reducible first | exact HI0.out | apply IsS90.alloc | apply IsS90.drewN | apply IsS90.drew | apply IsS90.set_1) | exact HI0.out)) hg (IsS90.own_ne HI0.out HO457.out (by decide))); have n1_ := Aside0.mk (Kd.R_after (ok := (fun _ => True)) (by (with_reducible repeat (first | apply Kd.R_alloc | apply Kd.R_drewN | apply Kd.R_drew)); exact HO461.out) hg hat); have n2_ := Aside0.mk (below_weaken (by repeat (first | (with_reducible first | exact HB.out | apply below_alloc | apply pw_below_drewN | apply below_drew1 | refine below_set ?_ (IsS90.ge HI0.out)) | exact HB.out)) HL.out hb); have n3_ := Aside0.mk (KeepBut.trans (by repeat (first | (with_reducible first | exact HK.out | apply KeepBut.set_ | apply keep_drewN | apply keep_drew | apply keep_alloc) | exact HK.out)) (KeepBut.of_grown hg g) (Kd.R_base2 HO457.out)); have n4_ := Aside0.mk (ho); clear HI0; clear HO461; clear HB; clear HK; clear HO457; have HI0 := n0_; have HO461 := n1_; have HB := n2_; have HK := n3_; have HO465 := n4_; clear n0_ n1_ n2_ n3_ n4_; clear ho hb hg hat) | ((with_reducible refine gate_builtin (b := .append) (xs := #[.tmp 56, .tmp 58]) rfl ?_); at_builtin; refine Kd.R_append k42 w.heap.size rfl (.tmp 56) (.tmp 58) 30 42 (.agg #[(.int .i64 0), (.int .i64 0)]) 16 rfl Try.underlying30 info42 rfl (by decide) (by omega) v464 y463 (⟨3, 0⟩ : S42) [.int .i64 3, .int .i64 0] (fun k_ => some k_ ≠ (.slice Ao33 t459.length co33 : Value).ownBlock) (fun _ => False) rfl rfl ?aP (fun _ hk => hk.elim) ?aF ?aO (Below.refl _ _) ?aS ?aL ?_; (case aP => exact k42_mkM _ _ _ (⟨3, 0⟩ : S42)); (case aF => exact (fun k_ hk => Kd.fresh' (Kd.R_lt (by (with_reducible repeat (first | apply Kd.R_alloc | apply Kd.R_drewN | apply Kd.R_drew)); exact HO461.out)) k_ hk)); (case aO => exact (by (with_reducible repeat (first | apply Kd.R_alloc | apply Kd.R_drewN | apply Kd.R_drew)); exact HO465.out)); (case aS => exact (keep_size (w := w) (g := g) (row := none) (by repeat (first | (with_reducible first | exact HK.out | apply KeepBut.set_ | apply keep_drewN | apply keep_drew | apply keep_alloc) | exact HK.out)))); (case aL => have := LMc29.out; omega); intro v467 w34 ho hb hg hat; rw [← Ny466.out] at ho; have n0_ := Aside0.mk (IsS90.grown (by repeat (first | (with_reducible first | exact HI0.out | apply IsS90.alloc | apply IsS90.drewN | apply IsS90.drew | apply IsS90.set_1) | exact HI0.out)) hg (IsS90.own_ne HI0.out HO465.out (by decide))); have n1_ := Aside0.mk (Kd.R_after (ok := (fun _ => True)) (by (with_reducible repeat (first | apply Kd.R_alloc | apply Kd.R_drewN | apply Kd.R_drew)); exact HO461.out) hg hat); have n2_ := Aside0.mk (below_weaken (by repeat (first | (with_reducible first | exact HB.out | apply below_alloc | apply pw_below_drewN | apply below_drew1 | refine below_set ?_ (IsS90.ge HI0.out)) | exact HB.out)) HL.out hb); have n3_ := Aside0.mk (KeepBut.trans (by repeat (first | (with_reducible first | exact HK.out | apply KeepBut.set_ | apply keep_drewN | apply keep_drew | apply keep_alloc) | exact HK.out)) (KeepBut.of_grown hg g) (Kd.R_base2 HO465.out)); have n4_ := Aside0.mk (ho); clear HI0; clear HO461; clear HB; clear HK; clear HO465; have HI0 := n0_; have HO461 := n1_; have HB := n2_; have HK := n3_; have HO468 := n4_; clear n0_ n1_ n2_ n3_ n4_; clear ho hb hg hat))
         go_ret
         exact ⟨_, by first | rfl | (simp [errW_none, errW_some] <;> rfl) | (simp [*, errW_none, errW_some] <;> rfl), by (with_reducible repeat (first | apply Kd.R_alloc | apply Kd.R_drewN | apply Kd.R_drew)); exact Kd.R_mono HO468.out (fun _ hk => trivial), by repeat (first | (with_reducible first | exact HI0.out | apply IsS90.alloc | apply IsS90.drewN | apply IsS90.drew | apply IsS90.set_1) | exact HI0.out), by repeat (first | (with_reducible first | exact HB.out | apply below_alloc | apply pw_below_drewN | apply below_drew1 | refine below_set ?_ (IsS90.ge HI0.out)) | exact HB.out), by repeat (first | (with_reducible first | exact HK.out | apply KeepBut.set_ | apply keep_drewN | apply keep_drew | apply keep_alloc) | exact HK.out)⟩
        ·rw [if_neg c29] at H
         exact absurd H (by simp)
       ·rw [if_neg c28] at H
        exact absurd H (by simp)
      ·replace c25 := Bool.eq_false_iff.mpr c25
       subst c25
       have H1 : (if a2 = 1 then ((spec_l20Rd_pick.f kj20 s0_0 x1001_20 4).bind fun bt469 => (if bt469.1 = 0 then (some ((([(⟨1, 0⟩ : S42)] : List (S42))), bt469.2)) else ((spec_l20Rd_pick.f kj20 s0_0 bt469.2 (mx a1 1)).bind fun bt474 => (some ((([(⟨0, bt474.1⟩ : S42)] : List (S42))), bt474.2))))) else ((spec_l20Rd_pick.f kj20 s0_0 x1001_20 (wrap64 (a2 - 1))).bind fun bt479 => ((spec_l20Part.f kj20 s0_0 bt479.2 a1 (wrap64 (1 + bt479.1)) 0).bind fun bt481 => ((spec_l20Part.f kj20 s0_0 bt481.2 a1 (wrap64 (a2 - (wrap64 (1 + bt479.1)))) 0).bind fun bt485 => (if bt481.1.length + bt485.1.length < 8796093022208 then ((some (bt481.1 ++ bt485.1 : List (S42))).bind fun y489 => (if y489.length < 8796093022208 then (some ((y489 ++ [(⟨2, 0⟩ : S42)]), bt485.2)) else (none))) else (none)))))) = some (r1, r2) := by rw [if_neg (show ¬ (false = true) by decide)] at H; exact H
       clear H
       have H := H1
       clear H1
       by_cases c35 : a2 = 1
       ·rw [if_pos c35] at H
        have c35b0 : (a2 == 1) = true := beq_iff_eq.mpr c35
        have c35b1 : (a2 != 1) = false := bne_eq_false_iff_eq.mpr c35
        clear c35
        replace H := Option.bind_eq_some_iff.mp H
        obtain ⟨⟨t469, t470⟩, A360, H⟩ := H
        replace H : (if t469 = 0 then (some ((([(⟨1, 0⟩ : S42)] : List (S42))), t470)) else ((spec_l20Rd_pick.f kj20 s0_0 t470 (mx a1 1)).bind fun bt474 => (some ((([(⟨0, bt474.1⟩ : S42)] : List (S42))), bt474.2)))) = some (r1, r2) := H
        have A36 := Aside0.mk A360
        clear A360
        by_cases c37 : t469 = 0
        ·rw [if_pos c37] at H
         have c37b0 : (t469 == 0) = true := beq_iff_eq.mpr c37
         have c37b1 : (t469 != 0) = false := bne_eq_false_iff_eq.mpr c37
         clear c37
         obtain ⟨y471, hy471⟩ : ∃ y_ : List (S42), y_ = (([(⟨1, 0⟩ : S42)] : List (S42))) := ⟨_, rfl⟩
         replace H : (some (y471, t470)) = some (r1, r2) := by first | (rw [hy471]; with_reducible exact H) | (have H2_ := (Option.bind_some _ _).symm.trans H; rw [hy471]; with_reducible exact H2_) | (have H2_ := (Option.bind_some _ _).symm.trans H; with_reducible exact H2_) | with_reducible exact H | (rw [hy471]; exact H) | exact H
         have Ny471 := Aside0.mk hy471
         clear hy471
         simp only [Option.some.injEq, Prod.mk.injEq] at H
         obtain ⟨rfl, rfl⟩ := H
         go_wp2_with (first | ((with_reducible refine gate_callee (f := 72) rfl ?_); refine goesL_ (some 63) rfl rfl Try.func72 (by kernel_rfl) rfl #[.pointer (some ⟨g, 0, none⟩), .int .i64 4] rfl (by (try simp only [List.map_toArray, List.map_cons, List.map_nil]); first | done | rfl) ?_; (with_reducible refine (spec_l20Rd_pick.calls kj20 g s0_0 x1001_20 4 t469 t470 w0 _ ?side1 ?side2 A36.out).mono ?_); (case side1 => repeat (first | (with_reducible first | exact HI0.out | apply IsS90.alloc | apply IsS90.drewN | apply IsS90.drew | apply IsS90.set_1) | exact HI0.out)); (case side2 => repeat (first | (with_reducible first | exact HB.out | apply below_alloc | apply pw_below_drewN | apply below_drew1 | refine below_set ?_ (IsS90.ge HI0.out)) | exact HB.out)); rintro e w38 ⟨rfl, hi, hb, hk⟩; refine ⟨_, rfl, ?_⟩; have n0_ := Aside0.mk (KeepBut.trans (by repeat (first | (with_reducible first | exact HK.out | apply KeepBut.set_ | apply keep_drewN | apply keep_drew | apply keep_alloc) | exact HK.out)) hk (.inl rfl)); have n1_ := Aside0.mk (hb); have n2_ := Aside0.mk (hi); clear HK; clear HB; clear HI0; have HK := n0_; have HB := n1_; have HI0 := n2_; clear n0_ n1_ n2_) | ((with_reducible refine gate_dst (N := 66) rfl ?_); refine Kd.R_lit k42 _ 42 ?hg (N := 66) ?hd (xs := ([(⟨1, 0⟩ : S42)] : List (S42))) (inner := [.int .i64 1, .int .i64 0]) (ok := fun _ => True) (okp := fun _ => True) ?hr ?hp (fun _ hk => hk) trivial (Below.refl _ _) (Nat.le_refl _) (by simp) ?_; (case hd => rfl); (case hg => rfl); (case hr => first | (go_simp; done) | (go_simp; rfl)); (case hp => exact (Reps.c2 (show Kd.M k42 _ _ _ (⟨1, 0⟩ : S42) [.int .i64 1, .int .i64 0] from (k42_mkM _ _ _ (⟨1, 0⟩ : S42) )) (Reps.none _ _))); intro v472 w39 ho40 hb hg_ hnew_; clear hg_ hnew_; (first | rw [← Ny471.out] at ho40 | (simp only [Int.reduceToNat] at ho40; rw [← Ny471.out] at ho40)); have n0_ := Aside0.mk (Kd.R_lower ho40 (keep_size (w := w) (g := g) (row := none) (by repeat (first | (with_reducible first | exact HK.out | apply KeepBut.set_ | apply keep_drewN | apply keep_drew | apply keep_alloc) | exact HK.out)))); have n1_ := Aside0.mk (IsS90.below (by repeat (first | (with_reducible first | exact HI0.out | apply IsS90.alloc | apply IsS90.drewN | apply IsS90.drew | apply IsS90.set_1) | exact HI0.out)) hb); have n2_ := Aside0.mk (KeepBut.trans (by repeat (first | (with_reducible first | exact HK.out | apply KeepBut.set_ | apply keep_drewN | apply keep_drew | apply keep_alloc) | exact HK.out)) (KeepBut.of_below hb g none) (.inl rfl)); have n3_ := Aside0.mk (below_step (by repeat (first | (with_reducible first | exact HB.out | apply below_alloc | apply pw_below_drewN | apply below_drew1 | refine below_set ?_ (IsS90.ge HI0.out)) | exact HB.out)) hb); clear HI0; clear HK; clear HB; have HO473 := n0_; have HI0 := n1_; have HK := n2_; have HB := n3_; clear n0_ n1_ n2_ n3_; clear hb ho40))
         go_ret
         exact ⟨_, by first | rfl | (simp [errW_none, errW_some] <;> rfl) | (simp [*, errW_none, errW_some] <;> rfl), by (with_reducible repeat (first | apply Kd.R_alloc | apply Kd.R_drewN | apply Kd.R_drew)); exact HO473.out, by repeat (first | (with_reducible first | exact HI0.out | apply IsS90.alloc | apply IsS90.drewN | apply IsS90.drew | apply IsS90.set_1) | exact HI0.out), by repeat (first | (with_reducible first | exact HB.out | apply below_alloc | apply pw_below_drewN | apply below_drew1 | refine below_set ?_ (IsS90.ge HI0.out)) | exact HB.out), by repeat (first | (with_reducible first | exact HK.out | apply KeepBut.set_ | apply keep_drewN | apply keep_drew | apply keep_alloc) | exact HK.out)⟩
        ·rw [if_neg c37] at H
         have c37b0 : (t469 == 0) = false := beq_eq_false_iff_ne.mpr c37
         have c37b1 : (t469 != 0) = true := bne_iff_ne.mpr c37
         obtain ⟨ji41, hji41⟩ : ∃ j_ : Int, (mx a1 1) = j_ := ⟨_, rfl⟩
         replace H : ((spec_l20Rd_pick.f kj20 s0_0 t470 (ji41)).bind fun bt474 => (some ((([(⟨0, bt474.1⟩ : S42)] : List (S42))), bt474.2))) = some (r1, r2) := by first | (rw [hji41] at H; exact H) | (simp only [hji41] at H ⊢; exact H)
         (try rw [hji41] at A36)
         (try (have hji41l : 1 ≤ ji41 := by (rw [← hji41]; unfold mx; (repeat' split) <;> omega)))
         (try (have hji41m : 0 ≤ ji41 := by omega))
         have hji41_ : (if a1 < 1 then 1 else a1) = ji41 := hji41
         replace H := Option.bind_eq_some_iff.mp H
         obtain ⟨⟨t474, t475⟩, A420, H⟩ := H
         replace H : (some ((([(⟨0, t474⟩ : S42)] : List (S42))), t475)) = some (r1, r2) := H
         have A42 := Aside0.mk A420
         clear A420
         obtain ⟨y476, hy476⟩ : ∃ y_ : List (S42), y_ = (([(⟨0, t474⟩ : S42)] : List (S42))) := ⟨_, rfl⟩
         replace H : (some (y476, t475)) = some (r1, r2) := by first | (rw [hy476]; with_reducible exact H) | (have H2_ := (Option.bind_some _ _).symm.trans H; rw [hy476]; with_reducible exact H2_) | (have H2_ := (Option.bind_some _ _).symm.trans H; with_reducible exact H2_) | with_reducible exact H | (rw [hy476]; exact H) | exact H
         have Ny476 := Aside0.mk hy476
         clear hy476
         simp only [Option.some.injEq, Prod.mk.injEq] at H
         obtain ⟨rfl, rfl⟩ := H
         go_wp2_with (first | ((with_reducible refine gate_callee (f := 72) rfl ?_); refine goesL_ (some 63) rfl rfl Try.func72 (by kernel_rfl) rfl #[.pointer (some ⟨g, 0, none⟩), .int .i64 4] rfl (by (try simp only [List.map_toArray, List.map_cons, List.map_nil]); first | done | rfl) ?_; (with_reducible refine (spec_l20Rd_pick.calls kj20 g s0_0 x1001_20 4 t469 t470 w0 _ ?side1 ?side2 A36.out).mono ?_); (case side1 => repeat (first | (with_reducible first | exact HI0.out | apply IsS90.alloc | apply IsS90.drewN | apply IsS90.drew | apply IsS90.set_1) | exact HI0.out)); (case side2 => repeat (first | (with_reducible first | exact HB.out | apply below_alloc | apply pw_below_drewN | apply below_drew1 | refine below_set ?_ (IsS90.ge HI0.out)) | exact HB.out)); rintro e w43 ⟨rfl, hi, hb, hk⟩; refine ⟨_, rfl, ?_⟩; have n0_ := Aside0.mk (KeepBut.trans (by repeat (first | (with_reducible first | exact HK.out | apply KeepBut.set_ | apply keep_drewN | apply keep_drew | apply keep_alloc) | exact HK.out)) hk (.inl rfl)); have n1_ := Aside0.mk (hb); have n2_ := Aside0.mk (hi); clear HK; clear HB; clear HI0; have HK := n0_; have HB := n1_; have HI0 := n2_; clear n0_ n1_ n2_) | ((with_reducible refine gate_callee (f := 72) rfl ?_); refine goesL_ (some 70) rfl rfl Try.func72 (by kernel_rfl) rfl #[.pointer (some ⟨g, 0, none⟩), .int .i64 ji41] rfl (by (try simp only [List.map_toArray, List.map_cons, List.map_nil]); first | done | (simp only [hji41]; rfl) | rfl | (simp only [List.length_drop, List.length_take]; rfl)) ?_; (with_reducible refine (spec_l20Rd_pick.calls kj20 g s0_0 t470 ji41 t474 t475 w0 _ ?side1 ?side2 A42.out).mono ?_); (case side1 => repeat (first | (with_reducible first | exact HI0.out | apply IsS90.alloc | apply IsS90.drewN | apply IsS90.drew | apply IsS90.set_1) | exact HI0.out)); (case side2 => repeat (first | (with_reducible first | exact HB.out | apply below_alloc | apply pw_below_drewN | apply below_drew1 | refine below_set ?_ (IsS90.ge HI0.out)) | exact HB.out)); rintro e w44 ⟨rfl, hi, hb, hk⟩; refine ⟨_, rfl, ?_⟩; have n0_ := Aside0.mk (KeepBut.trans (by repeat (first | (with_reducible first | exact HK.out | apply KeepBut.set_ | apply keep_drewN | apply keep_drew | apply keep_alloc) | exact HK.out)) hk (.inl rfl)); have n1_ := Aside0.mk (hb); have n2_ := Aside0.mk (hi); clear HK; clear HB; clear HI0; have HK := n0_; have HB := n1_; have HI0 := n2_; clear n0_ n1_ n2_) | ((with_reducible refine gate_dst (N := 72) rfl ?_); refine Kd.R_lit k42 _ 42 ?hg (N := 72) ?hd (xs := ([(⟨0, t474⟩ : S42)] : List (S42))) (inner := [.int .i64 0, .int .i64 t474]) (ok := fun _ => True) (okp := fun _ => True) ?hr ?hp (fun _ hk => hk) trivial (Below.refl _ _) (Nat.le_refl _) (by simp) ?_; (case hd => rfl); (case hg => rfl); (case hr => first | (go_simp; done) | (go_simp; rfl)); (case hp => exact (Reps.c2 (show Kd.M k42 _ _ _ (⟨0, t474⟩ : S42) [.int .i64 0, .int .i64 t474] from (k42_mkM _ _ _ (⟨0, t474⟩ : S42) )) (Reps.none _ _))); intro v477 w45 ho46 hb hg_ hnew_; clear hg_ hnew_; (first | rw [← Ny476.out] at ho46 | (simp only [Int.reduceToNat] at ho46; rw [← Ny476.out] at ho46)); have n0_ := Aside0.mk (Kd.R_lower ho46 (keep_size (w := w) (g := g) (row := none) (by repeat (first | (with_reducible first | exact HK.out | apply KeepBut.set_ | apply keep_drewN | apply keep_drew | apply keep_alloc) | exact HK.out)))); have n1_ := Aside0.mk (IsS90.below (by repeat (first | (with_reducible first | exact HI0.out | apply IsS90.alloc | apply IsS90.drewN | apply IsS90.drew | apply IsS90.set_1) | exact HI0.out)) hb); have n2_ := Aside0.mk (KeepBut.trans (by repeat (first | (with_reducible first | exact HK.out | apply KeepBut.set_ | apply keep_drewN | apply keep_drew | apply keep_alloc) | exact HK.out)) (KeepBut.of_below hb g none) (.inl rfl)); have n3_ := Aside0.mk (below_step (by repeat (first | (with_reducible first | exact HB.out | apply below_alloc | apply pw_below_drewN | apply below_drew1 | refine below_set ?_ (IsS90.ge HI0.out)) | exact HB.out)) hb); clear HI0; clear HK; clear HB; have HO478 := n0_; have HI0 := n1_; have HK := n2_; have HB := n3_; clear n0_ n1_ n2_ n3_; clear hb ho46))
         go_ret
         exact ⟨_, by first | rfl | (simp [errW_none, errW_some] <;> rfl) | (simp only [← hji41]; first | rfl | (simp [errW_none, errW_some] <;> rfl)) | (simp [*, errW_none, errW_some] <;> rfl), by (with_reducible repeat (first | apply Kd.R_alloc | apply Kd.R_drewN | apply Kd.R_drew)); exact HO478.out, by repeat (first | (with_reducible first | exact HI0.out | apply IsS90.alloc | apply IsS90.drewN | apply IsS90.drew | apply IsS90.set_1) | exact HI0.out), by repeat (first | (with_reducible first | exact HB.out | apply below_alloc | apply pw_below_drewN | apply below_drew1 | refine below_set ?_ (IsS90.ge HI0.out)) | exact HB.out), by repeat (first | (with_reducible first | exact HK.out | apply KeepBut.set_ | apply keep_drewN | apply keep_drew | apply keep_alloc) | exact HK.out)⟩
       ·rw [if_neg c35] at H
        have c35b0 : (a2 == 1) = false := beq_eq_false_iff_ne.mpr c35
        have c35b1 : (a2 != 1) = true := bne_iff_ne.mpr c35
        replace H := Option.bind_eq_some_iff.mp H
        obtain ⟨⟨t479, t480⟩, A470, H⟩ := H
        replace H : ((spec_l20Part.f kj20 s0_0 t480 a1 (wrap64 (1 + t479)) 0).bind fun bt481 => ((spec_l20Part.f kj20 s0_0 bt481.2 a1 (wrap64 (a2 - (wrap64 (1 + t479)))) 0).bind fun bt485 => (if bt481.1.length + bt485.1.length < 8796093022208 then ((some (bt481.1 ++ bt485.1 : List (S42))).bind fun y489 => (if y489.length < 8796093022208 then (some ((y489 ++ [(⟨2, 0⟩ : S42)]), bt485.2)) else (none))) else (none)))) = some (r1, r2) := H
        have A47 := Aside0.mk A470
        clear A470
        replace H := Option.bind_eq_some_iff.mp H
        obtain ⟨⟨t481, t484⟩, A480, H⟩ := H
        replace H : ((spec_l20Part.f kj20 s0_0 t484 a1 (wrap64 (a2 - (wrap64 (1 + t479)))) 0).bind fun bt485 => (if t481.length + bt485.1.length < 8796093022208 then ((some (t481 ++ bt485.1 : List (S42))).bind fun y489 => (if y489.length < 8796093022208 then (some ((y489 ++ [(⟨2, 0⟩ : S42)]), bt485.2)) else (none))) else (none))) = some (r1, r2) := H
        have A48 := Aside0.mk A480
        clear A480
        replace H := Option.bind_eq_some_iff.mp H
        obtain ⟨⟨t485, t488⟩, A490, H⟩ := H
        replace H : (if t481.length + t485.length < 8796093022208 then ((some (t481 ++ t485 : List (S42))).bind fun y489 => (if y489.length < 8796093022208 then (some ((y489 ++ [(⟨2, 0⟩ : S42)]), t488)) else (none))) else (none)) = some (r1, r2) := H
        have A49 := Aside0.mk A490
        clear A490
        by_cases c50 : t481.length + t485.length < 8796093022208
        ·rw [if_pos c50] at H
         have LMc50 := Aside0.mk c50
         clear c50
         obtain ⟨y489, hy489⟩ : ∃ y_ : List (S42), y_ = (t481 ++ t485) := ⟨_, rfl⟩
         replace H : (if y489.length < 8796093022208 then (some ((y489 ++ [(⟨2, 0⟩ : S42)]), t488)) else (none)) = some (r1, r2) := by first | (rw [hy489]; with_reducible exact H) | (have H2_ := (Option.bind_some _ _).symm.trans H; rw [hy489]; with_reducible exact H2_) | (have H2_ := (Option.bind_some _ _).symm.trans H; with_reducible exact H2_) | with_reducible exact H | (rw [hy489]; exact H) | exact H
         have Ny489 := Aside0.mk hy489
         clear hy489
         by_cases c51 : y489.length < 8796093022208
         ·rw [if_pos c51] at H
          have LMc51 := Aside0.mk c51
          clear c51
          obtain ⟨y492, hy492⟩ : ∃ y_ : List (S42), y_ = (y489 ++ [(⟨2, 0⟩ : S42)]) := ⟨_, rfl⟩
          replace H : (some (y492, t488)) = some (r1, r2) := by first | (rw [hy492]; with_reducible exact H) | (have H2_ := (Option.bind_some _ _).symm.trans H; rw [hy492]; with_reducible exact H2_) | (have H2_ := (Option.bind_some _ _).symm.trans H; with_reducible exact H2_) | with_reducible exact H | (rw [hy492]; exact H) | exact H
          have Ny492 := Aside0.mk hy492
          clear hy492
          simp only [Option.some.injEq, Prod.mk.injEq] at H
          obtain ⟨rfl, rfl⟩ := H
          go_wp2_with (first | ((with_reducible refine gate_callee (f := 72) rfl ?_); refine goesL_ (some 76) rfl rfl Try.func72 (by kernel_rfl) rfl #[.pointer (some ⟨g, 0, none⟩), .int .i64 (wrap64 (a2 - 1))] rfl (by (try simp only [List.map_toArray, List.map_cons, List.map_nil]); first | done | rfl) ?_; (with_reducible refine (spec_l20Rd_pick.calls kj20 g s0_0 x1001_20 (wrap64 (a2 - 1)) t479 t480 w0 _ ?side1 ?side2 A47.out).mono ?_); (case side1 => repeat (first | (with_reducible first | exact HI0.out | apply IsS90.alloc | apply IsS90.drewN | apply IsS90.drew | apply IsS90.set_1) | exact HI0.out)); (case side2 => repeat (first | (with_reducible first | exact HB.out | apply below_alloc | apply pw_below_drewN | apply below_drew1 | refine below_set ?_ (IsS90.ge HI0.out)) | exact HB.out)); rintro e w52 ⟨rfl, hi, hb, hk⟩; refine ⟨_, rfl, ?_⟩; have n0_ := Aside0.mk (KeepBut.trans (by repeat (first | (with_reducible first | exact HK.out | apply KeepBut.set_ | apply keep_drewN | apply keep_drew | apply keep_alloc) | exact HK.out)) hk (.inl rfl)); have n1_ := Aside0.mk (hb); have n2_ := Aside0.mk (hi); clear HK; clear HB; clear HI0; have HK := n0_; have HB := n1_; have HI0 := n2_; clear n0_ n1_ n2_) | ((with_reducible refine gate_callee (f := 86) rfl ?_); refine goesL_ (some 81) rfl rfl Try.func86 (by kernel_rfl) rfl #[.pointer (some ⟨g, 0, none⟩), .int .i64 a1, .int .i64 (wrap64 (1 + t479)), .int .i64 0] rfl (by (try simp only [List.map_toArray, List.map_cons, List.map_nil]); first | done | rfl) ?_; (with_reducible refine (ih kj20 (by have := HJ4.out; have := HJ20.out; omega) g s0_0 t480 a1 (wrap64 (1 + t479)) 0 t481 t484 w0 _ ?side1 ?side2 A48.out).mono ?_); (case side1 => repeat (first | (with_reducible first | exact HI0.out | apply IsS90.alloc | apply IsS90.drewN | apply IsS90.drew | apply IsS90.set_1) | exact HI0.out)); (case side2 => repeat (first | (with_reducible first | exact HB.out | apply below_alloc | apply pw_below_drewN | apply below_drew1 | refine below_set ?_ (IsS90.ge HI0.out)) | exact HB.out)); rintro e w53 ⟨v482, rfl, ho0, hi, hb, hk⟩; refine ⟨_, rfl, ?_⟩; have n0_ := Aside0.mk (Kd.R_lower ho0 (keep_size (w := w) (g := g) (row := none) (by repeat (first | (with_reducible first | exact HK.out | apply KeepBut.set_ | apply keep_drewN | apply keep_drew | apply keep_alloc) | exact HK.out)))); have n1_ := Aside0.mk (KeepBut.trans (by repeat (first | (with_reducible first | exact HK.out | apply KeepBut.set_ | apply keep_drewN | apply keep_drew | apply keep_alloc) | exact HK.out)) hk (.inl rfl)); have n2_ := Aside0.mk (hb); have n3_ := Aside0.mk (hi); clear HK; clear HB; clear HI0; have HO483 := n0_; have HK := n1_; have HB := n2_; have HI0 := n3_; clear n0_ n1_ n2_ n3_; (try clear ho0)) | ((with_reducible refine gate_callee (f := 86) rfl ?_); refine goesL_ (some 87) rfl rfl Try.func86 (by kernel_rfl) rfl #[.pointer (some ⟨g, 0, none⟩), .int .i64 a1, .int .i64 (wrap64 (a2 - (wrap64 (1 + t479)))), .int .i64 0] rfl (by (try simp only [List.map_toArray, List.map_cons, List.map_nil]); first | done | rfl) ?_; (with_reducible refine (ih kj20 (by have := HJ4.out; have := HJ20.out; omega) g s0_0 t484 a1 (wrap64 (a2 - (wrap64 (1 + t479)))) 0 t485 t488 w0 _ ?side1 ?side2 A49.out).mono ?_); (case side1 => repeat (first | (with_reducible first | exact HI0.out | apply IsS90.alloc | apply IsS90.drewN | apply IsS90.drew | apply IsS90.set_1) | exact HI0.out)); (case side2 => repeat (first | (with_reducible first | exact HB.out | apply below_alloc | apply pw_below_drewN | apply below_drew1 | refine below_set ?_ (IsS90.ge HI0.out)) | exact HB.out)); rintro e w54 ⟨v486, rfl, ho0, hi, hb, hk⟩; refine ⟨_, rfl, ?_⟩; have n0_ := Aside0.mk (Kd.R_mono (Kd.R_told (Kd.R_oldK (IsS90.apart (show IsS90 w0 _ g s0_0 t484 from by repeat (first | (with_reducible first | exact HI0.out | apply IsS90.alloc | apply IsS90.drewN | apply IsS90.drew | apply IsS90.set_1) | exact HI0.out)) (by (with_reducible repeat (first | apply Kd.R_alloc | apply Kd.R_drewN | apply Kd.R_drew)); exact HO483.out) (by decide)) hk) (Kd.R_base ho0)) (fun _ h_ => h_.1)); have n1_ := Aside0.mk (Kd.R_lower (Kd.R_new' ho0 (Kd.R_lt (by (with_reducible repeat (first | apply Kd.R_alloc | apply Kd.R_drewN | apply Kd.R_drew)); exact HO483.out))) (keep_size (w := w) (g := g) (row := none) (by repeat (first | (with_reducible first | exact HK.out | apply KeepBut.set_ | apply keep_drewN | apply keep_drew | apply keep_alloc) | exact HK.out)))); have n2_ := Aside0.mk (KeepBut.trans (by repeat (first | (with_reducible first | exact HK.out | apply KeepBut.set_ | apply keep_drewN | apply keep_drew | apply keep_alloc) | exact HK.out)) hk (.inl rfl)); have n3_ := Aside0.mk (hb); have n4_ := Aside0.mk (hi); clear HO483; clear HK; clear HB; clear HI0; have HO483 := n0_; have HO487 := n1_; have HK := n2_; have HB := n3_; have HI0 := n4_; clear n0_ n1_ n2_ n3_ n4_; (try clear ho0); obtain ⟨Ao56, co56, eo56⟩ := Kd.R_slice HO487.out; subst eo56) | ((with_reducible refine gate_builtin (b := .append) (xs := #[.tmp 81, .tmp 87]) rfl ?_); at_builtin; refine Kd.R_append_rows k42 w.heap.size rfl (.tmp 81) (.tmp 87) 30 42 (.agg #[(.int .i64 0), (.int .i64 0)]) 16 rfl Try.underlying30 info42 rfl (by decide) (by omega) v482 t481 t485 _ _ _ (fun k_ => some k_ ≠ (.slice Ao56 t485.length co56 : Value).ownBlock) (fun _ => False) rfl rfl ?aO ?aR (fun _ _ h => h) (fun _ h => h.elim) ?aF (Below.refl _ _) ?aS ?aL ?_; (case aR => repeat (first | exact (Kd.R_reads' HO487.out).2.2 | (with_reducible refine Kd.C_alloc ?_ _) | (with_reducible refine Kd.C_drewN ?_ _) | (with_reducible refine Kd.C_drew ?_))); (case aF => exact (fun k_ hk => Kd.fresh' (Kd.R_lt (by (with_reducible repeat (first | apply Kd.R_alloc | apply Kd.R_drewN | apply Kd.R_drew)); exact HO487.out)) k_ hk)); (case aO => exact (by (with_reducible repeat (first | apply Kd.R_alloc | apply Kd.R_drewN | apply Kd.R_drew)); exact Kd.R_mono HO483.out (fun _ hk => hk.2))); (case aS => exact (keep_size (w := w) (g := g) (row := none) (by repeat (first | (with_reducible first | exact HK.out | apply KeepBut.set_ | apply keep_drewN | apply keep_drew | apply keep_alloc) | exact HK.out)))); (case aL => have := LMc50.out; omega); intro v490 w55 ho hb hg hat; rw [← Ny489.out] at ho; have n0_ := Aside0.mk (IsS90.grown (by repeat (first | (with_reducible first | exact HI0.out | apply IsS90.alloc | apply IsS90.drewN | apply IsS90.drew | apply IsS90.set_1) | exact HI0.out)) hg (IsS90.own_ne HI0.out HO483.out (by decide))); have n1_ := Aside0.mk (Kd.R_after (ok := (fun _ => True)) (by (with_reducible repeat (first | apply Kd.R_alloc | apply Kd.R_drewN | apply Kd.R_drew)); exact HO487.out) hg hat); have n2_ := Aside0.mk (below_weaken (by repeat (first | (with_reducible first | exact HB.out | apply below_alloc | apply pw_below_drewN | apply below_drew1 | refine below_set ?_ (IsS90.ge HI0.out)) | exact HB.out)) HL.out hb); have n3_ := Aside0.mk (KeepBut.trans (by repeat (first | (with_reducible first | exact HK.out | apply KeepBut.set_ | apply keep_drewN | apply keep_drew | apply keep_alloc) | exact HK.out)) (KeepBut.of_grown hg g) (Kd.R_base2 HO483.out)); have n4_ := Aside0.mk (ho); clear HI0; clear HO487; clear HB; clear HK; clear HO483; have HI0 := n0_; have HO487 := n1_; have HB := n2_; have HK := n3_; have HO491 := n4_; clear n0_ n1_ n2_ n3_ n4_; clear ho hb hg hat) | ((with_reducible refine gate_builtin (b := .append) (xs := #[.tmp 88, .tmp 90]) rfl ?_); at_builtin; refine Kd.R_append k42 w.heap.size rfl (.tmp 88) (.tmp 90) 30 42 (.agg #[(.int .i64 0), (.int .i64 0)]) 16 rfl Try.underlying30 info42 rfl (by decide) (by omega) v490 y489 (⟨2, 0⟩ : S42) [.int .i64 2, .int .i64 0] (fun k_ => some k_ ≠ (.slice Ao56 t485.length co56 : Value).ownBlock) (fun _ => False) rfl rfl ?aP (fun _ hk => hk.elim) ?aF ?aO (Below.refl _ _) ?aS ?aL ?_; (case aP => exact k42_mkM _ _ _ (⟨2, 0⟩ : S42)); (case aF => exact (fun k_ hk => Kd.fresh' (Kd.R_lt (by (with_reducible repeat (first | apply Kd.R_alloc | apply Kd.R_drewN | apply Kd.R_drew)); exact HO487.out)) k_ hk)); (case aO => exact (by (with_reducible repeat (first | apply Kd.R_alloc | apply Kd.R_drewN | apply Kd.R_drew)); exact HO491.out)); (case aS => exact (keep_size (w := w) (g := g) (row := none) (by repeat (first | (with_reducible first | exact HK.out | apply KeepBut.set_ | apply keep_drewN | apply keep_drew | apply keep_alloc) | exact HK.out)))); (case aL => have := LMc51.out; omega); intro v493 w57 ho hb hg hat; rw [← Ny492.out] at ho; have n0_ := Aside0.mk (IsS90.grown (by repeat (first | (with_reducible first | exact HI0.out | apply IsS90.alloc | apply IsS90.drewN | apply IsS90.drew | apply IsS90.set_1) | exact HI0.out)) hg (IsS90.own_ne HI0.out HO491.out (by decide))); have n1_ := Aside0.mk (Kd.R_after (ok := (fun _ => True)) (by (with_reducible repeat (first | apply Kd.R_alloc | apply Kd.R_drewN | apply Kd.R_drew)); exact HO487.out) hg hat); have n2_ := Aside0.mk (below_weaken (by repeat (first | (with_reducible first | exact HB.out | apply below_alloc | apply pw_below_drewN | apply below_drew1 | refine below_set ?_ (IsS90.ge HI0.out)) | exact HB.out)) HL.out hb); have n3_ := Aside0.mk (KeepBut.trans (by repeat (first | (with_reducible first | exact HK.out | apply KeepBut.set_ | apply keep_drewN | apply keep_drew | apply keep_alloc) | exact HK.out)) (KeepBut.of_grown hg g) (Kd.R_base2 HO491.out)); have n4_ := Aside0.mk (ho); clear HI0; clear HO487; clear HB; clear HK; clear HO491; have HI0 := n0_; have HO487 := n1_; have HB := n2_; have HK := n3_; have HO494 := n4_; clear n0_ n1_ n2_ n3_ n4_; clear ho hb hg hat))
          go_ret
          exact ⟨_, by first | rfl | (simp [errW_none, errW_some] <;> rfl) | (simp [*, errW_none, errW_some] <;> rfl), by (with_reducible repeat (first | apply Kd.R_alloc | apply Kd.R_drewN | apply Kd.R_drew)); exact Kd.R_mono HO494.out (fun _ hk => trivial), by repeat (first | (with_reducible first | exact HI0.out | apply IsS90.alloc | apply IsS90.drewN | apply IsS90.drew | apply IsS90.set_1) | exact HI0.out), by repeat (first | (with_reducible first | exact HB.out | apply below_alloc | apply pw_below_drewN | apply below_drew1 | refine below_set ?_ (IsS90.ge HI0.out)) | exact HB.out), by repeat (first | (with_reducible first | exact HK.out | apply KeepBut.set_ | apply keep_drewN | apply keep_drew | apply keep_alloc) | exact HK.out)⟩
         ·rw [if_neg c51] at H
          exact absurd H (by simp)
        ·rw [if_neg c50] at H
         exact absurd H (by simp)

/-! ### spec_l20Term: function 59 -/
def spec_l20Term.f (k : Nat) (s0_0 : List Int) (s0_1 : Int) (a1 : Int) (a2 : Int) : Option ((List (S42)) × Int) := (spec_l20Rd_pick.f k s0_0 s0_1 3).bind fun bt495 => ((spec_l20Part.f k s0_0 bt495.2 a1 (wrap64 (1 + bt495.1)) 1).bind fun bt497 => ((spec_l20Rd_odd.f k s0_0 bt497.2 a2).bind fun bt501 => (if bt501.1 = true then ((spec_l20Rd_pick.f k s0_0 bt501.2 3).bind fun bt503 => (if bt503.1 = 0 then (some ((([] : List (S42))), bt503.2)) else (if bt503.1 = 1 then (if bt497.1.length < 8796093022208 then (some ((bt497.1 ++ [(⟨3, 0⟩ : S42)]), bt503.2)) else (none)) else ((some (([(⟨1, 0⟩ : S42), (⟨1, 0⟩ : S42)] : List (S42)) : List (S42))).bind fun y511 => (if bt497.1.length + y511.length < 8796093022208 then ((some (bt497.1 ++ y511 : List (S42))).bind fun y514 => (if y514.length < 8796093022208 then (some ((y514 ++ [(⟨3, 0⟩ : S42)]), bt503.2)) else (none))) else (none)))))) else (some (bt497.1, bt501.2)))))
set_option maxHeartbeats 8000000 in
set_option maxRecDepth 100000 in
theorem spec_l20Term.calls (k : Nat) (g : Nat) (s0_0 : List Int) (s0_1 : Int) (a1 : Int) (a2 : Int) (r1 : List (S42)) (r2 : Int) (w0 w : World) (hI : IsS90 w0 w g s0_0 s0_1) (hB : Below w0.heap.size w0 w) (h : spec_l20Term.f k s0_0 s0_1 a1 a2 = some (r1, r2)) :
  Calls Try.prog 59 #[.pointer (some ⟨g, 0, none⟩), .int .i64 a1, .int .i64 a2] w fun e w' => ∃ v0_ : Value, e = .returned (v0_) ∧ Kd.R k42 42 w' w.heap.size (fun _ => True) v0_ r1 ∧ IsS90 w0 w' g s0_0 r2 ∧ Below w0.heap.size w0 w' ∧ KeepBut w w' g none := by
 have hu42 := Try.underlying42
 have HI0 := Aside0.mk hI
 have HK := Aside0.mk (KeepBut.refl w g none)
 have HL := Aside0.mk hB.size
 clear hI
 have HW0 := Aside0.mk hB.size
 have HB := Aside0.mk hB
 clear hB
 have H : ((spec_l20Rd_pick.f k s0_0 s0_1 3).bind fun bt495 => ((spec_l20Part.f k s0_0 bt495.2 a1 (wrap64 (1 + bt495.1)) 1).bind fun bt497 => ((spec_l20Rd_odd.f k s0_0 bt497.2 a2).bind fun bt501 => (if bt501.1 = true then ((spec_l20Rd_pick.f k s0_0 bt501.2 3).bind fun bt503 => (if bt503.1 = 0 then (some ((([] : List (S42))), bt503.2)) else (if bt503.1 = 1 then (if bt497.1.length < 8796093022208 then (some ((bt497.1 ++ [(⟨3, 0⟩ : S42)]), bt503.2)) else (none)) else ((some (([(⟨1, 0⟩ : S42), (⟨1, 0⟩ : S42)] : List (S42)) : List (S42))).bind fun y511 => (if bt497.1.length + y511.length < 8796093022208 then ((some (bt497.1 ++ y511 : List (S42))).bind fun y514 => (if y514.length < 8796093022208 then (some ((y514 ++ [(⟨3, 0⟩ : S42)]), bt503.2)) else (none))) else (none)))))) else (some (bt497.1, bt501.2)))))) = some (r1, r2) := h
 clear h
 replace H := Option.bind_eq_some_iff.mp H
 obtain ⟨⟨t495, t496⟩, A40, H⟩ := H
 replace H : ((spec_l20Part.f k s0_0 t496 a1 (wrap64 (1 + t495)) 1).bind fun bt497 => ((spec_l20Rd_odd.f k s0_0 bt497.2 a2).bind fun bt501 => (if bt501.1 = true then ((spec_l20Rd_pick.f k s0_0 bt501.2 3).bind fun bt503 => (if bt503.1 = 0 then (some ((([] : List (S42))), bt503.2)) else (if bt503.1 = 1 then (if bt497.1.length < 8796093022208 then (some ((bt497.1 ++ [(⟨3, 0⟩ : S42)]), bt503.2)) else (none)) else ((some (([(⟨1, 0⟩ : S42), (⟨1, 0⟩ : S42)] : List (S42)) : List (S42))).bind fun y511 => (if bt497.1.length + y511.length < 8796093022208 then ((some (bt497.1 ++ y511 : List (S42))).bind fun y514 => (if y514.length < 8796093022208 then (some ((y514 ++ [(⟨3, 0⟩ : S42)]), bt503.2)) else (none))) else (none)))))) else (some (bt497.1, bt501.2))))) = some (r1, r2) := H
 have A4 := Aside0.mk A40
 clear A40
 replace H := Option.bind_eq_some_iff.mp H
 obtain ⟨⟨t497, t500⟩, A50, H⟩ := H
 replace H : ((spec_l20Rd_odd.f k s0_0 t500 a2).bind fun bt501 => (if bt501.1 = true then ((spec_l20Rd_pick.f k s0_0 bt501.2 3).bind fun bt503 => (if bt503.1 = 0 then (some ((([] : List (S42))), bt503.2)) else (if bt503.1 = 1 then (if t497.length < 8796093022208 then (some ((t497 ++ [(⟨3, 0⟩ : S42)]), bt503.2)) else (none)) else ((some (([(⟨1, 0⟩ : S42), (⟨1, 0⟩ : S42)] : List (S42)) : List (S42))).bind fun y511 => (if t497.length + y511.length < 8796093022208 then ((some (t497 ++ y511 : List (S42))).bind fun y514 => (if y514.length < 8796093022208 then (some ((y514 ++ [(⟨3, 0⟩ : S42)]), bt503.2)) else (none))) else (none)))))) else (some (t497, bt501.2)))) = some (r1, r2) := H
 have A5 := Aside0.mk A50
 clear A50
 replace H := Option.bind_eq_some_iff.mp H
 obtain ⟨⟨t501, t502⟩, A60, H⟩ := H
 replace H : (if t501 = true then ((spec_l20Rd_pick.f k s0_0 t502 3).bind fun bt503 => (if bt503.1 = 0 then (some ((([] : List (S42))), bt503.2)) else (if bt503.1 = 1 then (if t497.length < 8796093022208 then (some ((t497 ++ [(⟨3, 0⟩ : S42)]), bt503.2)) else (none)) else ((some (([(⟨1, 0⟩ : S42), (⟨1, 0⟩ : S42)] : List (S42)) : List (S42))).bind fun y511 => (if t497.length + y511.length < 8796093022208 then ((some (t497 ++ y511 : List (S42))).bind fun y514 => (if y514.length < 8796093022208 then (some ((y514 ++ [(⟨3, 0⟩ : S42)]), bt503.2)) else (none))) else (none)))))) else (some (t497, t502))) = some (r1, r2) := H
 have A6 := Aside0.mk A60
 clear A60
 by_cases c7 : t501 = true
 ·subst c7
  have H1 : ((spec_l20Rd_pick.f k s0_0 t502 3).bind fun bt503 => (if bt503.1 = 0 then (some ((([] : List (S42))), bt503.2)) else (if bt503.1 = 1 then (if t497.length < 8796093022208 then (some ((t497 ++ [(⟨3, 0⟩ : S42)]), bt503.2)) else (none)) else ((some (([(⟨1, 0⟩ : S42), (⟨1, 0⟩ : S42)] : List (S42)) : List (S42))).bind fun y511 => (if t497.length + y511.length < 8796093022208 then ((some (t497 ++ y511 : List (S42))).bind fun y514 => (if y514.length < 8796093022208 then (some ((y514 ++ [(⟨3, 0⟩ : S42)]), bt503.2)) else (none))) else (none)))))) = some (r1, r2) := by rw [if_pos rfl] at H; exact H
  clear H
  have H := H1
  clear H1
  replace H := Option.bind_eq_some_iff.mp H
  obtain ⟨⟨t503, t504⟩, A80, H⟩ := H
  replace H : (if t503 = 0 then (some ((([] : List (S42))), t504)) else (if t503 = 1 then (if t497.length < 8796093022208 then (some ((t497 ++ [(⟨3, 0⟩ : S42)]), t504)) else (none)) else ((some (([(⟨1, 0⟩ : S42), (⟨1, 0⟩ : S42)] : List (S42)) : List (S42))).bind fun y511 => (if t497.length + y511.length < 8796093022208 then ((some (t497 ++ y511 : List (S42))).bind fun y514 => (if y514.length < 8796093022208 then (some ((y514 ++ [(⟨3, 0⟩ : S42)]), t504)) else (none))) else (none))))) = some (r1, r2) := H
  have A8 := Aside0.mk A80
  clear A80
  by_cases c9 : t503 = 0
  ·rw [if_pos c9] at H
   have c9b0 : (t503 == 0) = true := beq_iff_eq.mpr c9
   have c9b1 : (t503 != 0) = false := bne_eq_false_iff_eq.mpr c9
   clear c9
   obtain ⟨y505, hy505⟩ : ∃ y_ : List (S42), y_ = (([] : List (S42))) := ⟨_, rfl⟩
   replace H : (some (y505, t504)) = some (r1, r2) := by first | (rw [hy505]; with_reducible exact H) | (have H2_ := (Option.bind_some _ _).symm.trans H; rw [hy505]; with_reducible exact H2_) | (have H2_ := (Option.bind_some _ _).symm.trans H; with_reducible exact H2_) | with_reducible exact H | (rw [hy505]; exact H) | exact H
   have Ny505 := Aside0.mk hy505
   clear hy505
   simp only [Option.some.injEq, Prod.mk.injEq] at H
   obtain ⟨rfl, rfl⟩ := H
   go_enter Try.func59, Try.ntmps59
   go_wp2_with (first | ((with_reducible refine gate_callee (f := 72) rfl ?_); refine goesL_ (some 11) rfl rfl Try.func72 (by kernel_rfl) rfl #[.pointer (some ⟨g, 0, none⟩), .int .i64 3] rfl (by (try simp only [List.map_toArray, List.map_cons, List.map_nil]); first | done | rfl) ?_; (with_reducible refine (spec_l20Rd_pick.calls k g s0_0 s0_1 3 t495 t496 w0 _ ?side1 ?side2 A4.out).mono ?_); (case side1 => repeat (first | (with_reducible first | exact HI0.out | apply IsS90.alloc | apply IsS90.drewN | apply IsS90.drew | apply IsS90.set_1) | exact HI0.out)); (case side2 => repeat (first | (with_reducible first | exact HB.out | apply below_alloc | apply pw_below_drewN | apply below_drew1 | refine below_set ?_ (IsS90.ge HI0.out)) | exact HB.out)); rintro e w10 ⟨rfl, hi, hb, hk⟩; refine ⟨_, rfl, ?_⟩; have n0_ := Aside0.mk (KeepBut.trans (by repeat (first | (with_reducible first | exact HK.out | apply KeepBut.set_ | apply keep_drewN | apply keep_drew | apply keep_alloc) | exact HK.out)) hk (.inl rfl)); have n1_ := Aside0.mk (hb); have n2_ := Aside0.mk (hi); clear HK; clear HB; clear HI0; have HK := n0_; have HB := n1_; have HI0 := n2_; clear n0_ n1_ n2_) | ((with_reducible refine gate_callee (f := 86) rfl ?_); refine goesL_ (some 13) rfl rfl Try.func86 (by kernel_rfl) rfl #[.pointer (some ⟨g, 0, none⟩), .int .i64 a1, .int .i64 (wrap64 (1 + t495)), .int .i64 1] rfl (by (try simp only [List.map_toArray, List.map_cons, List.map_nil]); first | done | rfl) ?_; (with_reducible refine (spec_l20Part.calls k g s0_0 t496 a1 (wrap64 (1 + t495)) 1 t497 t500 w0 _ ?side1 ?side2 A5.out).mono ?_); (case side1 => repeat (first | (with_reducible first | exact HI0.out | apply IsS90.alloc | apply IsS90.drewN | apply IsS90.drew | apply IsS90.set_1) | exact HI0.out)); (case side2 => repeat (first | (with_reducible first | exact HB.out | apply below_alloc | apply pw_below_drewN | apply below_drew1 | refine below_set ?_ (IsS90.ge HI0.out)) | exact HB.out)); rintro e w11 ⟨v498, rfl, ho0, hi, hb, hk⟩; refine ⟨_, rfl, ?_⟩; have n0_ := Aside0.mk (Kd.R_lower ho0 (keep_size (w := w) (g := g) (row := none) (by repeat (first | (with_reducible first | exact HK.out | apply KeepBut.set_ | apply keep_drewN | apply keep_drew | apply keep_alloc) | exact HK.out)))); have n1_ := Aside0.mk (KeepBut.trans (by repeat (first | (with_reducible first | exact HK.out | apply KeepBut.set_ | apply keep_drewN | apply keep_drew | apply keep_alloc) | exact HK.out)) hk (.inl rfl)); have n2_ := Aside0.mk (hb); have n3_ := Aside0.mk (hi); clear HK; clear HB; clear HI0; have HO499 := n0_; have HK := n1_; have HB := n2_; have HI0 := n3_; clear n0_ n1_ n2_ n3_; (try clear ho0)) | ((with_reducible refine gate_callee (f := 85) rfl ?_); refine goesL_ (some 16) rfl rfl Try.func85 (by kernel_rfl) rfl #[.pointer (some ⟨g, 0, none⟩), .int .i64 a2] rfl (by (try simp only [List.map_toArray, List.map_cons, List.map_nil]); first | done | rfl) ?_; (with_reducible refine (spec_l20Rd_odd.calls k g s0_0 t500 a2 true t502 w0 _ ?side1 ?side2 A6.out).mono ?_); (case side1 => repeat (first | (with_reducible first | exact HI0.out | apply IsS90.alloc | apply IsS90.drewN | apply IsS90.drew | apply IsS90.set_1) | exact HI0.out)); (case side2 => repeat (first | (with_reducible first | exact HB.out | apply below_alloc | apply pw_below_drewN | apply below_drew1 | refine below_set ?_ (IsS90.ge HI0.out)) | exact HB.out)); rintro e w12 ⟨rfl, hi, hb, hk⟩; refine ⟨_, rfl, ?_⟩; have n0_ := Aside0.mk (Kd.R_mono (Kd.R_keep (IsS90.apart (show IsS90 w0 _ g s0_0 t500 from by repeat (first | (with_reducible first | exact HI0.out | apply IsS90.alloc | apply IsS90.drewN | apply IsS90.drew | apply IsS90.set_1) | exact HI0.out)) (by (with_reducible repeat (first | apply Kd.R_alloc | apply Kd.R_drewN | apply Kd.R_drew)); exact HO499.out) (by decide)) hk (fun _ h => h.2)) (fun _ h => h.1)); have n1_ := Aside0.mk (KeepBut.trans (by repeat (first | (with_reducible first | exact HK.out | apply KeepBut.set_ | apply keep_drewN | apply keep_drew | apply keep_alloc) | exact HK.out)) hk (.inl rfl)); have n2_ := Aside0.mk (hb); have n3_ := Aside0.mk (hi); clear HO499; clear HK; clear HB; clear HI0; have HO499 := n0_; have HK := n1_; have HB := n2_; have HI0 := n3_; clear n0_ n1_ n2_ n3_) | ((with_reducible refine gate_callee (f := 72) rfl ?_); refine goesL_ (some 18) rfl rfl Try.func72 (by kernel_rfl) rfl #[.pointer (some ⟨g, 0, none⟩), .int .i64 3] rfl (by (try simp only [List.map_toArray, List.map_cons, List.map_nil]); first | done | rfl) ?_; (with_reducible refine (spec_l20Rd_pick.calls k g s0_0 t502 3 t503 t504 w0 _ ?side1 ?side2 A8.out).mono ?_); (case side1 => repeat (first | (with_reducible first | exact HI0.out | apply IsS90.alloc | apply IsS90.drewN | apply IsS90.drew | apply IsS90.set_1) | exact HI0.out)); (case side2 => repeat (first | (with_reducible first | exact HB.out | apply below_alloc | apply pw_below_drewN | apply below_drew1 | refine below_set ?_ (IsS90.ge HI0.out)) | exact HB.out)); rintro e w13 ⟨rfl, hi, hb, hk⟩; refine ⟨_, rfl, ?_⟩; have n0_ := Aside0.mk (Kd.R_mono (Kd.R_keep (IsS90.apart (show IsS90 w0 _ g s0_0 t502 from by repeat (first | (with_reducible first | exact HI0.out | apply IsS90.alloc | apply IsS90.drewN | apply IsS90.drew | apply IsS90.set_1) | exact HI0.out)) (by (with_reducible repeat (first | apply Kd.R_alloc | apply Kd.R_drewN | apply Kd.R_drew)); exact HO499.out) (by decide)) hk (fun _ h => h.2)) (fun _ h => h.1)); have n1_ := Aside0.mk (KeepBut.trans (by repeat (first | (with_reducible first | exact HK.out | apply KeepBut.set_ | apply keep_drewN | apply keep_drew | apply keep_alloc) | exact HK.out)) hk (.inl rfl)); have n2_ := Aside0.mk (hb); have n3_ := Aside0.mk (hi); clear HO499; clear HK; clear HB; clear HI0; have HO499 := n0_; have HK := n1_; have HB := n2_; have HI0 := n3_; clear n0_ n1_ n2_ n3_) | ((with_reducible refine gate_dst (N := 29) rfl ?_); refine Kd.R_lit k42 _ 42 ?hg (N := 29) ?hd (xs := ([] : List (S42))) (inner := []) (ok := fun _ => True) (okp := fun _ => True) ?hr ?hp (fun _ hk => hk) trivial (Below.refl _ _) (Nat.le_refl _) (by simp) ?_; (case hd => rfl); (case hg => rfl); (case hr => first | (go_simp; done) | (go_simp; rfl)); (case hp => exact (Reps.none _ _)); intro v506 w14 ho15 hb hg_ hnew_; clear hg_ hnew_; (first | rw [← Ny505.out] at ho15 | (simp only [Int.reduceToNat] at ho15; rw [← Ny505.out] at ho15)); have n0_ := Aside0.mk (Kd.R_elder' (by (with_reducible repeat (first | apply Kd.R_alloc | apply Kd.R_drewN | apply Kd.R_drew)); exact HO499.out) (Kd.R_base ho15) hb); have n1_ := Aside0.mk (Kd.R_lower (Kd.R_new' ho15 (Kd.R_lt (by (with_reducible repeat (first | apply Kd.R_alloc | apply Kd.R_drewN | apply Kd.R_drew)); exact HO499.out))) (keep_size (w := w) (g := g) (row := none) (by repeat (first | (with_reducible first | exact HK.out | apply KeepBut.set_ | apply keep_drewN | apply keep_drew | apply keep_alloc) | exact HK.out)))); have n2_ := Aside0.mk (IsS90.below (by repeat (first | (with_reducible first | exact HI0.out | apply IsS90.alloc | apply IsS90.drewN | apply IsS90.drew | apply IsS90.set_1) | exact HI0.out)) hb); have n3_ := Aside0.mk (KeepBut.trans (by repeat (first | (with_reducible first | exact HK.out | apply KeepBut.set_ | apply keep_drewN | apply keep_drew | apply keep_alloc) | exact HK.out)) (KeepBut.of_below hb g none) (.inl rfl)); have n4_ := Aside0.mk (below_step (by repeat (first | (with_reducible first | exact HB.out | apply below_alloc | apply pw_below_drewN | apply below_drew1 | refine below_set ?_ (IsS90.ge HI0.out)) | exact HB.out)) hb); clear HO499; clear HI0; clear HK; clear HB; have HO499 := n0_; have HO507 := n1_; have HI0 := n2_; have HK := n3_; have HB := n4_; clear n0_ n1_ n2_ n3_ n4_; clear hb ho15))
   go_ret
   exact ⟨_, by first | rfl | (simp [errW_none, errW_some] <;> rfl) | (simp [*, errW_none, errW_some] <;> rfl), by (with_reducible repeat (first | apply Kd.R_alloc | apply Kd.R_drewN | apply Kd.R_drew)); exact Kd.R_mono HO507.out (fun _ hk => trivial), by repeat (first | (with_reducible first | exact HI0.out | apply IsS90.alloc | apply IsS90.drewN | apply IsS90.drew | apply IsS90.set_1) | exact HI0.out), by repeat (first | (with_reducible first | exact HB.out | apply below_alloc | apply pw_below_drewN | apply below_drew1 | refine below_set ?_ (IsS90.ge HI0.out)) | exact HB.out), by repeat (first | (with_reducible first | exact HK.out | apply KeepBut.set_ | apply keep_drewN | apply keep_drew | apply keep_alloc) | exact HK.out)⟩
  ·rw [if_neg c9] at H
   have c9b0 : (t503 == 0) = false := beq_eq_false_iff_ne.mpr c9
   have c9b1 : (t503 != 0) = true := bne_iff_ne.mpr c9
   by_cases c16 : t503 = 1
   ·rw [if_pos c16] at H
    have c16b0 : (t503 == 1) = true := beq_iff_eq.mpr c16
    have c16b1 : (t503 != 1) = false := bne_eq_false_iff_eq.mpr c16
    clear c16
    by_cases c17 : t497.length < 8796093022208
    ·rw [if_pos c17] at H
     have LMc17 := Aside0.mk c17
     clear c17
     obtain ⟨y508, hy508⟩ : ∃ y_ : List (S42), y_ = (t497 ++ [(⟨3, 0⟩ : S42)]) := ⟨_, rfl⟩
     replace H : (some (y508, t504)) = some (r1, r2) := by first | (rw [hy508]; with_reducible exact H) | (have H2_ := (Option.bind_some _ _).symm.trans H; rw [hy508]; with_reducible exact H2_) | (have H2_ := (Option.bind_some _ _).symm.trans H; with_reducible exact H2_) | with_reducible exact H | (rw [hy508]; exact H) | exact H
     have Ny508 := Aside0.mk hy508
     clear hy508
     simp only [Option.some.injEq, Prod.mk.injEq] at H
     obtain ⟨rfl, rfl⟩ := H
     go_enter Try.func59, Try.ntmps59
     go_wp2_with (first | ((with_reducible refine gate_callee (f := 72) rfl ?_); refine goesL_ (some 11) rfl rfl Try.func72 (by kernel_rfl) rfl #[.pointer (some ⟨g, 0, none⟩), .int .i64 3] rfl (by (try simp only [List.map_toArray, List.map_cons, List.map_nil]); first | done | rfl) ?_; (with_reducible refine (spec_l20Rd_pick.calls k g s0_0 s0_1 3 t495 t496 w0 _ ?side1 ?side2 A4.out).mono ?_); (case side1 => repeat (first | (with_reducible first | exact HI0.out | apply IsS90.alloc | apply IsS90.drewN | apply IsS90.drew | apply IsS90.set_1) | exact HI0.out)); (case side2 => repeat (first | (with_reducible first | exact HB.out | apply below_alloc | apply pw_below_drewN | apply below_drew1 | refine below_set ?_ (IsS90.ge HI0.out)) | exact HB.out)); rintro e w18 ⟨rfl, hi, hb, hk⟩; refine ⟨_, rfl, ?_⟩; have n0_ := Aside0.mk (KeepBut.trans (by repeat (first | (with_reducible first | exact HK.out | apply KeepBut.set_ | apply keep_drewN | apply keep_drew | apply keep_alloc) | exact HK.out)) hk (.inl rfl)); have n1_ := Aside0.mk (hb); have n2_ := Aside0.mk (hi); clear HK; clear HB; clear HI0; have HK := n0_; have HB := n1_; have HI0 := n2_; clear n0_ n1_ n2_) | ((with_reducible refine gate_callee (f := 86) rfl ?_); refine goesL_ (some 13) rfl rfl Try.func86 (by kernel_rfl) rfl #[.pointer (some ⟨g, 0, none⟩), .int .i64 a1, .int .i64 (wrap64 (1 + t495)), .int .i64 1] rfl (by (try simp only [List.map_toArray, List.map_cons, List.map_nil]); first | done | rfl) ?_; (with_reducible refine (spec_l20Part.calls k g s0_0 t496 a1 (wrap64 (1 + t495)) 1 t497 t500 w0 _ ?side1 ?side2 A5.out).mono ?_); (case side1 => repeat (first | (with_reducible first | exact HI0.out | apply IsS90.alloc | apply IsS90.drewN | apply IsS90.drew | apply IsS90.set_1) | exact HI0.out)); (case side2 => repeat (first | (with_reducible first | exact HB.out | apply below_alloc | apply pw_below_drewN | apply below_drew1 | refine below_set ?_ (IsS90.ge HI0.out)) | exact HB.out)); rintro e w19 ⟨v498, rfl, ho0, hi, hb, hk⟩; refine ⟨_, rfl, ?_⟩; have n0_ := Aside0.mk (Kd.R_lower ho0 (keep_size (w := w) (g := g) (row := none) (by repeat (first | (with_reducible first | exact HK.out | apply KeepBut.set_ | apply keep_drewN | apply keep_drew | apply keep_alloc) | exact HK.out)))); have n1_ := Aside0.mk (KeepBut.trans (by repeat (first | (with_reducible first | exact HK.out | apply KeepBut.set_ | apply keep_drewN | apply keep_drew | apply keep_alloc) | exact HK.out)) hk (.inl rfl)); have n2_ := Aside0.mk (hb); have n3_ := Aside0.mk (hi); clear HK; clear HB; clear HI0; have HO499 := n0_; have HK := n1_; have HB := n2_; have HI0 := n3_; clear n0_ n1_ n2_ n3_; (try clear ho0)) | ((with_reducible refine gate_callee (f := 85) rfl ?_); refine goesL_ (some 16) rfl rfl Try.func85 (by kernel_rfl) rfl #[.pointer (some ⟨g, 0, none⟩), .int .i64 a2] rfl (by (try simp only [List.map_toArray, List.map_cons, List.map_nil]); first | done | rfl) ?_; (with_reducible refine (spec_l20Rd_odd.calls k g s0_0 t500 a2 true t502 w0 _ ?side1 ?side2 A6.out).mono ?_); (case side1 => repeat (first | (with_reducible first | exact HI0.out | apply IsS90.alloc | apply IsS90.drewN | apply IsS90.drew | apply IsS90.set_1) | exact HI0.out)); (case side2 => repeat (first | (with_reducible first | exact HB.out | apply below_alloc | apply pw_below_drewN | apply below_drew1 | refine below_set ?_ (IsS90.ge HI0.out)) | exact HB.out)); rintro e w20 ⟨rfl, hi, hb, hk⟩; refine ⟨_, rfl, ?_⟩; have n0_ := Aside0.mk (Kd.R_mono (Kd.R_keep (IsS90.apart (show IsS90 w0 _ g s0_0 t500 from by repeat (first | (with_reducible first | exact HI0.out | apply IsS90.alloc | apply IsS90.drewN | apply IsS90.drew | apply IsS90.set_1) | exact HI0.out)) (by (with_reducible repeat (first | apply Kd.R_alloc | apply Kd.R_drewN | apply Kd.R_drew)); exact HO499.out) (by decide)) hk (fun _ h => h.2)) (fun _ h => h.1)); have n1_ := Aside0.mk (KeepBut.trans (by repeat (first | (with_reducible first | exact HK.out | apply KeepBut.set_ | apply keep_drewN | apply keep_drew | apply keep_alloc) | exact HK.out)) hk (.inl rfl)); have n2_ := Aside0.mk (hb); have n3_ := Aside0.mk (hi); clear HO499; clear HK; clear HB; clear HI0; have HO499 := n0_; have HK := n1_; have HB := n2_; have HI0 := n3_; clear n0_ n1_ n2_ n3_) | ((with_reducible refine gate_callee (f := 72) rfl ?_); refine goesL_ (some 18) rfl rfl Try.func72 (by kernel_rfl) rfl #[.pointer (some ⟨g, 0, none⟩), .int .i64 3] rfl (by (try simp only [List.map_toArray, List.map_cons, List.map_nil]); first | done | rfl) ?_; (with_reducible refine (spec_l20Rd_pick.calls k g s0_0 t502 3 t503 t504 w0 _ ?side1 ?side2 A8.out).mono ?_); (case side1 => repeat (first | (with_reducible first | exact HI0.out | apply IsS90.alloc | apply IsS90.drewN | apply IsS90.drew | apply IsS90.set_1) | exact HI0.out)); (case side2 => repeat (first | (with_reducible first | exact HB.out | apply below_alloc | apply pw_below_drewN | apply below_drew1 | refine below_set ?_ (IsS90.ge HI0.out)) | exact HB.out)); rintro e w21 ⟨rfl, hi, hb, hk⟩; refine ⟨_, rfl, ?_⟩; have n0_ := Aside0.mk (Kd.R_mono (Kd.R_keep (IsS90.apart (show IsS90 w0 _ g s0_0 t502 from by repeat (first | (with_reducible first | exact HI0.out | apply IsS90.alloc | apply IsS90.drewN | apply IsS90.drew | apply IsS90.set_1) | exact HI0.out)) (by (with_reducible repeat (first | apply Kd.R_alloc | apply Kd.R_drewN | apply Kd.R_drew)); exact HO499.out) (by decide)) hk (fun _ h => h.2)) (fun _ h => h.1)); have n1_ := Aside0.mk (KeepBut.trans (by repeat (first | (with_reducible first | exact HK.out | apply KeepBut.set_ | apply keep_drewN | apply keep_drew | apply keep_alloc) | exact HK.out)) hk (.inl rfl)); have n2_ := Aside0.mk (hb); have n3_ := Aside0.mk (hi); clear HO499; clear HK; clear HB; clear HI0; have HO499 := n0_; have HK := n1_; have HB := n2_; have HI0 := n3_; clear n0_ n1_ n2_ n3_) | ((with_reducible refine gate_builtin (b := .append) (xs := #[.tmp 32, .tmp 34]) rfl ?_); at_builtin; refine Kd.R_append k42 w.heap.size rfl (.tmp 32) (.tmp 34) 30 42 (.agg #[(.int .i64 0), (.int .i64 0)]) 16 rfl Try.underlying30 info42 rfl (by decide) (by omega) v498 t497 (⟨3, 0⟩ : S42) [.int .i64 3, .int .i64 0] (fun _ => True) (fun _ => False) rfl rfl ?aP (fun _ hk => hk.elim) ?aF ?aO (Below.refl _ _) ?aS ?aL ?_; (case aP => exact k42_mkM _ _ _ (⟨3, 0⟩ : S42)); (case aF => exact (fun _ _ => trivial)); (case aO => exact (by (with_reducible repeat (first | apply Kd.R_alloc | apply Kd.R_drewN | apply Kd.R_drew)); exact HO499.out)); (case aS => exact (keep_size (w := w) (g := g) (row := none) (by repeat (first | (with_reducible first | exact HK.out | apply KeepBut.set_ | apply keep_drewN | apply keep_drew | apply keep_alloc) | exact HK.out)))); (case aL => have := LMc17.out; omega); intro v509 w22 ho hb hg hat; rw [← Ny508.out] at ho; have n0_ := Aside0.mk (IsS90.grown (by repeat (first | (with_reducible first | exact HI0.out | apply IsS90.alloc | apply IsS90.drewN | apply IsS90.drew | apply IsS90.set_1) | exact HI0.out)) hg (IsS90.own_ne HI0.out HO499.out (by decide))); have n1_ := Aside0.mk (below_weaken (by repeat (first | (with_reducible first | exact HB.out | apply below_alloc | apply pw_below_drewN | apply below_drew1 | refine below_set ?_ (IsS90.ge HI0.out)) | exact HB.out)) HL.out hb); have n2_ := Aside0.mk (KeepBut.trans (by repeat (first | (with_reducible first | exact HK.out | apply KeepBut.set_ | apply keep_drewN | apply keep_drew | apply keep_alloc) | exact HK.out)) (KeepBut.of_grown hg g) (Kd.R_base2 HO499.out)); have n3_ := Aside0.mk (ho); clear HI0; clear HB; clear HK; clear HO499; have HI0 := n0_; have HB := n1_; have HK := n2_; have HO510 := n3_; clear n0_ n1_ n2_ n3_; clear ho hb hg hat))
     go_ret
     exact ⟨_, by first | rfl | (simp [errW_none, errW_some] <;> rfl) | (simp [*, errW_none, errW_some] <;> rfl), by (with_reducible repeat (first | apply Kd.R_alloc | apply Kd.R_drewN | apply Kd.R_drew)); exact HO510.out, by repeat (first | (with_reducible first | exact HI0.out | apply IsS90.alloc | apply IsS90.drewN | apply IsS90.drew | apply IsS90.set_1) | exact HI0.out), by repeat (first | (with_reducible first | exact HB.out | apply below_alloc | apply pw_below_drewN | apply below_drew1 | refine below_set ?_ (IsS90.ge HI0.out)) | exact HB.out), by repeat (first | (with_reducible first | exact HK.out | apply KeepBut.set_ | apply keep_drewN | apply keep_drew | apply keep_alloc) | exact HK.out)⟩
    ·rw [if_neg c17] at H
     exact absurd H (by simp)
   ·rw [if_neg c16] at H
    have c16b0 : (t503 == 1) = false := beq_eq_false_iff_ne.mpr c16
    have c16b1 : (t503 != 1) = true := bne_iff_ne.mpr c16
    obtain ⟨y511, hy511⟩ : ∃ y_ : List (S42), y_ = (([(⟨1, 0⟩ : S42), (⟨1, 0⟩ : S42)] : List (S42))) := ⟨_, rfl⟩
    replace H : (if t497.length + y511.length < 8796093022208 then ((some (t497 ++ y511 : List (S42))).bind fun y514 => (if y514.length < 8796093022208 then (some ((y514 ++ [(⟨3, 0⟩ : S42)]), t504)) else (none))) else (none)) = some (r1, r2) := by first | (rw [hy511]; with_reducible exact H) | (have H2_ := (Option.bind_some _ _).symm.trans H; rw [hy511]; with_reducible exact H2_) | (have H2_ := (Option.bind_some _ _).symm.trans H; with_reducible exact H2_) | with_reducible exact H | (rw [hy511]; exact H) | exact H
    have Ny511 := Aside0.mk hy511
    clear hy511
    by_cases c23 : t497.length + y511.length < 8796093022208
    ·rw [if_pos c23] at H
     have LMc23 := Aside0.mk c23
     clear c23
     obtain ⟨y514, hy514⟩ : ∃ y_ : List (S42), y_ = (t497 ++ y511) := ⟨_, rfl⟩
     replace H : (if y514.length < 8796093022208 then (some ((y514 ++ [(⟨3, 0⟩ : S42)]), t504)) else (none)) = some (r1, r2) := by first | (rw [hy514]; with_reducible exact H) | (have H2_ := (Option.bind_some _ _).symm.trans H; rw [hy514]; with_reducible exact H2_) | (have H2_ := (Option.bind_some _ _).symm.trans H; with_reducible exact H2_) | with_reducible exact H | (rw [hy514]; exact H) | exact H
     have Ny514 := Aside0.mk hy514
     clear hy514
     by_cases c24 : y514.length < 8796093022208
     ·rw [if_pos c24] at H
      have LMc24 := Aside0.mk c24
      clear c24
      obtain ⟨y517, hy517⟩ : ∃ y_ : List (S42), y_ = (y514 ++ [(⟨3, 0⟩ : S42)]) := ⟨_, rfl⟩
      replace H : (some (y517, t504)) = some (r1, r2) := by first | (rw [hy517]; with_reducible exact H) | (have H2_ := (Option.bind_some _ _).symm.trans H; rw [hy517]; with_reducible exact H2_) | (have H2_ := (Option.bind_some _ _).symm.trans H; with_reducible exact H2_) | with_reducible exact H | (rw [hy517]; exact H) | exact H
      have Ny517 := Aside0.mk hy517
      clear hy517
      simp only [Option.some.injEq, Prod.mk.injEq] at H
      obtain ⟨rfl, rfl⟩ := H
      go_enter Try.func59, Try.ntmps59
      go_wp2_with (first | ((with_reducible refine gate_callee (f := 72) rfl ?_); refine goesL_ (some 11) rfl rfl Try.func72 (by kernel_rfl) rfl #[.pointer (some ⟨g, 0, none⟩), .int .i64 3] rfl (by (try simp only [List.map_toArray, List.map_cons, List.map_nil]); first | done | rfl) ?_; (with_reducible refine (spec_l20Rd_pick.calls k g s0_0 s0_1 3 t495 t496 w0 _ ?side1 ?side2 A4.out).mono ?_); (case side1 => repeat (first | (with_reducible first | exact HI0.out | apply IsS90.alloc | apply IsS90.drewN | apply IsS90.drew | apply IsS90.set_1) | exact HI0.out)); (case side2 => repeat (first | (with_reducible first | exact HB.out | apply below_alloc | apply pw_below_drewN | apply below_drew1 | refine below_set ?_ (IsS90.ge HI0.out)) | exact HB.out)); rintro e w25 ⟨rfl, hi, hb, hk⟩; refine ⟨_, rfl, ?_⟩; have n0_ := Aside0.mk (KeepBut.trans (by repeat (first | (with_reducible first | exact HK.out | apply KeepBut.set_ | apply keep_drewN | apply keep_drew | apply keep_alloc) | exact HK.out)) hk (.inl rfl)); have n1_ := Aside0.mk (hb); have n2_ := Aside0.mk (hi); clear HK; clear HB; clear HI0; have HK := n0_; have HB := n1_; have HI0 := n2_; clear n0_ n1_ n2_) | ((with_reducible refine gate_callee (f := 86) rfl ?_); refine goesL_ (some 13) rfl rfl Try.func86 (by kernel_rfl) rfl #[.pointer (some ⟨g, 0, none⟩), .int .i64 a1, .int .i64 (wrap64 (1 + t495)), .int .i64 1] rfl (by (try simp only [List.map_toArray, List.map_cons, List.map_nil]); first | done | rfl) ?_; (with_reducible refine (spec_l20Part.calls k g s0_0 t496 a1 (wrap64 (1 + t495)) 1 t497 t500 w0 _ ?side1 ?side2 A5.out).mono ?_); (case side1 => repeat (first | (with_reducible first | exact HI0.out | apply IsS90.alloc | apply IsS90.drewN | apply IsS90.drew | apply IsS90.set_1) | exact HI0.out)); (case side2 => repeat (first | (with_reducible first | exact HB.out | apply below_alloc | apply pw_below_drewN | apply below_drew1 | refine below_set ?_ (IsS90.ge HI0.out)) | exact HB.out)); rintro e w26 ⟨v498, rfl, ho0, hi, hb, hk⟩; refine ⟨_, rfl, ?_⟩; have n0_ := Aside0.mk (Kd.R_lower ho0 (keep_size (w := w) (g := g) (row := none) (by repeat (first | (with_reducible first | exact HK.out | apply KeepBut.set_ | apply keep_drewN | apply keep_drew | apply keep_alloc) | exact HK.out)))); have n1_ := Aside0.mk (KeepBut.trans (by repeat (first | (with_reducible first | exact HK.out | apply KeepBut.set_ | apply keep_drewN | apply keep_drew | apply keep_alloc) | exact HK.out)) hk (.inl rfl)); have n2_ := Aside0.mk (hb); have n3_ := Aside0.mk (hi); clear HK; clear HB; clear HI0; have HO499 := n0_; have HK := n1_; have HB := n2_; have HI0 := n3_; clear n0_ n1_ n2_ n3_; (try clear ho0)) | ((with_reducible refine gate_callee (f := 85) rfl ?_); refine goesL_ (some 16) rfl rfl Try.func85 (by kernel_rfl) rfl #[.pointer (some ⟨g, 0, none⟩), .int .i64 a2] rfl (by (try simp only [List.map_toArray, List.map_cons, List.map_nil]); first | done | rfl) ?_; (with_reducible refine (spec_l20Rd_odd.calls k g s0_0 t500 a2 true t502 w0 _ ?side1 ?side2 A6.out).mono ?_); (case side1 => repeat (first | (with_reducible first | exact HI0.out | apply IsS90.alloc | apply IsS90.drewN | apply IsS90.drew | apply IsS90.set_1) | exact HI0.out)); (case side2 => repeat (first | (with_reducible first | exact HB.out | apply below_alloc | apply pw_below_drewN | apply below_drew1 | refine below_set ?_ (IsS90.ge HI0.out)) | exact HB.out)); rintro e w27 ⟨rfl, hi, hb, hk⟩; refine ⟨_, rfl, ?_⟩; have n0_ := Aside0.mk (Kd.R_mono (Kd.R_keep (IsS90.apart (show IsS90 w0 _ g s0_0 t500 from by repeat (first | (with_reducible first | exact HI0.out | apply IsS90.alloc | apply IsS90.drewN | apply IsS90.drew | apply IsS90.set_1) | exact HI0.out)) (by (with_reducible repeat (first | apply Kd.R_alloc | apply Kd.R_drewN | apply Kd.R_drew)); exact HO499.out) (by decide)) hk (fun _ h => h.2)) (fun _ h => h.1)); have n1_ := Aside0.mk (KeepBut.trans (by repeat (first | (with_reducible first | exact HK.out | apply KeepBut.set_ | apply keep_drewN | apply keep_drew | apply keep_alloc) | exact HK.out)) hk (.inl rfl)); have n2_ := Aside0.mk (hb); have n3_ := Aside0.mk (hi); clear HO499; clear HK; clear HB; clear HI0; have HO499 := n0_; have HK := n1_; have HB := n2_; have HI0 := n3_; clear n0_ n1_ n2_ n3_) | ((with_reducible refine gate_callee (f := 72) rfl ?_); refine goesL_ (some 18) rfl rfl Try.func72 (by kernel_rfl) rfl #[.pointer (some ⟨g, 0, none⟩), .int .i64 3] rfl (by (try simp only [List.map_toArray, List.map_cons, List.map_nil]); first | done | rfl) ?_; (with_reducible refine (spec_l20Rd_pick.calls k g s0_0 t502 3 t503 t504 w0 _ ?side1 ?side2 A8.out).mono ?_); (case side1 => repeat (first | (with_reducible first | exact HI0.out | apply IsS90.alloc | apply IsS90.drewN | apply IsS90.drew | apply IsS90.set_1) | exact HI0.out)); (case side2 => repeat (first | (with_reducible first | exact HB.out | apply below_alloc | apply pw_below_drewN | apply below_drew1 | refine below_set ?_ (IsS90.ge HI0.out)) | exact HB.out)); rintro e w28 ⟨rfl, hi, hb, hk⟩; refine ⟨_, rfl, ?_⟩; have n0_ := Aside0.mk (Kd.R_mono (Kd.R_keep (IsS90.apart (show IsS90 w0 _ g s0_0 t502 from by repeat (first | (with_reducible first | exact HI0.out | apply IsS90.alloc | apply IsS90.drewN | apply IsS90.drew | apply IsS90.set_1) | exact HI0.out)) (by (with_reducible repeat (first | apply Kd.R_alloc | apply Kd.R_drewN | apply Kd.R_drew)); exact HO499.out) (by decide)) hk (fun _ h => h.2)) (fun _ h => h.1)); have n1_ := Aside0.mk (KeepBut.trans (by repeat (first | (with_reducible first | exact HK.out | apply KeepBut.set_ | apply keep_drewN | apply keep_drew | apply keep_alloc) | exact HK.out)) hk (.inl rfl)); have n2_ := Aside0.mk (hb); have n3_ := Aside0.mk (hi); clear HO499; clear HK; clear HB; clear HI0; have HO499 := n0_; have HK := n1_; have HB := n2_; have HI0 := n3_; clear n0_ n1_ n2_ n3_) | ((with_reducible refine gate_dst (N := 22) rfl ?_); refine Kd.R_lit k42 _ 42 ?hg (N := 22) ?hd (xs := ([(⟨1, 0⟩ : S42), (⟨1, 0⟩ : S42)] : List (S42))) (inner := [.int .i64 1, .int .i64 0, .int .i64 1, .int .i64 0]) (ok := fun _ => True) (okp := fun _ => True) ?hr ?hp (fun _ hk => hk) trivial (Below.refl _ _) (Nat.le_refl _) (by simp) ?_; (case hd => rfl); (case hg => rfl); (case hr => first | (go_simp; done) | (go_simp; rfl)); (case hp => exact (Reps.c2 (show Kd.M k42 _ _ _ (⟨1, 0⟩ : S42) [.int .i64 1, .int .i64 0] from (k42_mkM _ _ _ (⟨1, 0⟩ : S42) )) (Reps.c2 (show Kd.M k42 _ _ _ (⟨1, 0⟩ : S42) [.int .i64 1, .int .i64 0] from (k42_mkM _ _ _ (⟨1, 0⟩ : S42) )) (Reps.none _ _)))); intro v512 w29 ho30 hb hg_ hnew_; clear hg_ hnew_; (first | rw [← Ny511.out] at ho30 | (simp only [Int.reduceToNat] at ho30; rw [← Ny511.out] at ho30)); have n0_ := Aside0.mk (Kd.R_elder' (by (with_reducible repeat (first | apply Kd.R_alloc | apply Kd.R_drewN | apply Kd.R_drew)); exact HO499.out) (Kd.R_base ho30) hb); have n1_ := Aside0.mk (Kd.R_lower (Kd.R_new' ho30 (Kd.R_lt (by (with_reducible repeat (first | apply Kd.R_alloc | apply Kd.R_drewN | apply Kd.R_drew)); exact HO499.out))) (keep_size (w := w) (g := g) (row := none) (by repeat (first | (with_reducible first | exact HK.out | apply KeepBut.set_ | apply keep_drewN | apply keep_drew | apply keep_alloc) | exact HK.out)))); have n2_ := Aside0.mk (IsS90.below (by repeat (first | (with_reducible first | exact HI0.out | apply IsS90.alloc | apply IsS90.drewN | apply IsS90.drew | apply IsS90.set_1) | exact HI0.out)) hb); have n3_ := Aside0.mk (KeepBut.trans (by repeat (first | (with_reducible first | exact HK.out | apply KeepBut.set_ | apply keep_drewN | apply keep_drew | apply keep_alloc) | exact HK.out)) (KeepBut.of_below hb g none) (.inl rfl)); have n4_ := Aside0.mk (below_step (by repeat (first | (with_reducible first | exact HB.out | apply below_alloc | apply pw_below_drewN | apply below_drew1 | refine below_set ?_ (IsS90.ge HI0.out)) | exact HB.out)) hb); clear HO499; clear HI0; clear HK; clear HB; have HO499 := n0_; have HO513 := n1_; have HI0 := n2_; have HK := n3_; have HB := n4_; clear n0_ n1_ n2_ n3_ n4_; clear hb ho30; obtain ⟨Ao32, co32, eo32⟩ := Kd.R_slice HO513.out; subst eo32) | ((with_reducible refine gate_builtin (b := .append) (xs := #[.tmp 19, .tmp 22]) rfl ?_); at_builtin; refine Kd.R_append_rows k42 w.heap.size rfl (.tmp 19) (.tmp 22) 30 42 (.agg #[(.int .i64 0), (.int .i64 0)]) 16 rfl Try.underlying30 info42 rfl (by decide) (by omega) v498 t497 y511 _ _ _ (fun k_ => some k_ ≠ (.slice Ao32 y511.length co32 : Value).ownBlock) (fun _ => False) rfl rfl ?aO ?aR (fun _ _ h => h) (fun _ h => h.elim) ?aF (Below.refl _ _) ?aS ?aL ?_; (case aR => repeat (first | exact (Kd.R_reads' HO513.out).2.2 | (with_reducible refine Kd.C_alloc ?_ _) | (with_reducible refine Kd.C_drewN ?_ _) | (with_reducible refine Kd.C_drew ?_))); (case aF => exact (fun k_ hk => Kd.fresh' (Kd.R_lt (by (with_reducible repeat (first | apply Kd.R_alloc | apply Kd.R_drewN | apply Kd.R_drew)); exact HO513.out)) k_ hk)); (case aO => exact (by (with_reducible repeat (first | apply Kd.R_alloc | apply Kd.R_drewN | apply Kd.R_drew)); exact Kd.R_mono HO499.out (fun _ hk => hk.2))); (case aS => exact (keep_size (w := w) (g := g) (row := none) (by repeat (first | (with_reducible first | exact HK.out | apply KeepBut.set_ | apply keep_drewN | apply keep_drew | apply keep_alloc) | exact HK.out)))); (case aL => have := LMc23.out; omega); intro v515 w31 ho hb hg hat; rw [← Ny514.out] at ho; have n0_ := Aside0.mk (IsS90.grown (by repeat (first | (with_reducible first | exact HI0.out | apply IsS90.alloc | apply IsS90.drewN | apply IsS90.drew | apply IsS90.set_1) | exact HI0.out)) hg (IsS90.own_ne HI0.out HO499.out (by decide))); have n1_ := Aside0.mk (Kd.R_after (ok := (fun _ => True)) (by (with_reducible repeat (first | apply Kd.R_alloc | apply Kd.R_drewN | apply Kd.R_drew)); exact HO513.out) hg hat); have n2_ := Aside0.mk (below_weaken (by repeat (first | (with_reducible first | exact HB.out | apply below_alloc | apply pw_below_drewN | apply below_drew1 | refine below_set ?_ (IsS90.ge HI0.out)) | exact HB.out)) HL.out hb); have n3_ := Aside0.mk (KeepBut.trans (by repeat (first | (with_reducible first | exact HK.out | apply KeepBut.set_ | apply keep_drewN | apply keep_drew | apply keep_alloc) | exact HK.out)) (KeepBut.of_grown hg g) (Kd.R_base2 HO499.out)); have n4_ := Aside0.mk (ho); clear HI0; clear HO513; clear HB; clear HK; clear HO499; have HI0 := n0_; have HO513 := n1_; have HB := n2_; have HK := n3_; have HO516 := n4_; clear n0_ n1_ n2_ n3_ n4_; clear ho hb hg hat) | ((with_reducible refine gate_builtin (b := .append) (xs := #[.tmp 23, .tmp 25]) rfl ?_); at_builtin; refine Kd.R_append k42 w.heap.size rfl (.tmp 23) (.tmp 25) 30 42 (.agg #[(.int .i64 0), (.int .i64 0)]) 16 rfl Try.underlying30 info42 rfl (by decide) (by omega) v515 y514 (⟨3, 0⟩ : S42) [.int .i64 3, .int .i64 0] (fun k_ => some k_ ≠ (.slice Ao32 y511.length co32 : Value).ownBlock) (fun _ => False) rfl rfl ?aP (fun _ hk => hk.elim) ?aF ?aO (Below.refl _ _) ?aS ?aL ?_; (case aP => exact k42_mkM _ _ _ (⟨3, 0⟩ : S42)); (case aF => exact (fun k_ hk => Kd.fresh' (Kd.R_lt (by (with_reducible repeat (first | apply Kd.R_alloc | apply Kd.R_drewN | apply Kd.R_drew)); exact HO513.out)) k_ hk)); (case aO => exact (by (with_reducible repeat (first | apply Kd.R_alloc | apply Kd.R_drewN | apply Kd.R_drew)); exact HO516.out)); (case aS => exact (keep_size (w := w) (g := g) (row := none) (by repeat (first | (with_reducible first | exact HK.out | apply KeepBut.set_ | apply keep_drewN | apply keep_drew | apply keep_alloc) | exact HK.out)))); (case aL => have := LMc24.out; omega); intro v518 w33 ho hb hg hat; rw [← Ny517.out] at ho; have n0_ := Aside0.mk (IsS90.grown (by repeat (first | (with_reducible first | exact HI0.out | apply IsS90.alloc | apply IsS90.drewN | apply IsS90.drew | apply IsS90.set_1) | exact HI0.out)) hg (IsS90.own_ne HI0.out HO516.out (by decide))); have n1_ := Aside0.mk (Kd.R_after (ok := (fun _ => True)) (by (with_reducible repeat (first | apply Kd.R_alloc | apply Kd.R_drewN | apply Kd.R_drew)); exact HO513.out) hg hat); have n2_ := Aside0.mk (below_weaken (by repeat (first | (with_reducible first | exact HB.out | apply below_alloc | apply pw_below_drewN | apply below_drew1 | refine below_set ?_ (IsS90.ge HI0.out)) | exact HB.out)) HL.out hb); have n3_ := Aside0.mk (KeepBut.trans (by repeat (first | (with_reducible first | exact HK.out | apply KeepBut.set_ | apply keep_drewN | apply keep_drew | apply keep_alloc) | exact HK.out)) (KeepBut.of_grown hg g) (Kd.R_base2 HO516.out)); have n4_ := Aside0.mk (ho); clear HI0; clear HO513; clear HB; clear HK; clear HO516; have HI0 := n0_; have HO513 := n1_; have HB := n2_; have HK := n3_; have HO519 := n4_; clear n0_ n1_ n2_ n3_ n4_; clear ho hb hg hat))
      go_ret
      exact ⟨_, by first | rfl | (simp [errW_none, errW_some] <;> rfl) | (simp [*, errW_none, errW_some] <;> rfl), by (with_reducible repeat (first | apply Kd.R_alloc | apply Kd.R_drewN | apply Kd.R_drew)); exact Kd.R_mono HO519.out (fun _ hk => trivial), by repeat (first | (with_reducible first | exact HI0.out | apply IsS90.alloc | apply IsS90.drewN | apply IsS90.drew | apply IsS90.set_1) | exact HI0.out), by repeat (first | (with_reducible first | exact HB.out | apply below_alloc | apply pw_below_drewN | apply below_drew1 | refine below_set ?_ (IsS90.ge HI0.out)) | exact HB.out), by repeat (first | (with_reducible first | exact HK.out | apply KeepBut.set_ | apply keep_drewN | apply keep_drew | apply keep_alloc) | exact HK.out)⟩
     ·rw [if_neg c24] at H
      exact absurd H (by simp)
    ·rw [if_neg c23] at H
     exact absurd H (by simp)
 ·replace c7 := Bool.eq_false_iff.mpr c7
  subst c7
  have H1 : (some (t497, t502)) = some (r1, r2) := by rw [if_neg (show ¬ (false = true) by decide)] at H; exact H
  clear H
  have H := H1
  clear H1
  simp only [Option.some.injEq, Prod.mk.injEq] at H
  obtain ⟨rfl, rfl⟩ := H
  go_enter Try.func59, Try.ntmps59
  go_wp2_with (first | ((with_reducible refine gate_callee (f := 72) rfl ?_); refine goesL_ (some 11) rfl rfl Try.func72 (by kernel_rfl) rfl #[.pointer (some ⟨g, 0, none⟩), .int .i64 3] rfl (by (try simp only [List.map_toArray, List.map_cons, List.map_nil]); first | done | rfl) ?_; (with_reducible refine (spec_l20Rd_pick.calls k g s0_0 s0_1 3 t495 t496 w0 _ ?side1 ?side2 A4.out).mono ?_); (case side1 => repeat (first | (with_reducible first | exact HI0.out | apply IsS90.alloc | apply IsS90.drewN | apply IsS90.drew | apply IsS90.set_1) | exact HI0.out)); (case side2 => repeat (first | (with_reducible first | exact HB.out | apply below_alloc | apply pw_below_drewN | apply below_drew1 | refine below_set ?_ (IsS90.ge HI0.out)) | exact HB.out)); rintro e w34 ⟨rfl, hi, hb, hk⟩; refine ⟨_, rfl, ?_⟩; have n0_ := Aside0.mk (KeepBut.trans (by repeat (first | (with_reducible first | exact HK.out | apply KeepBut.set_ | apply keep_drewN | apply keep_drew | apply keep_alloc) | exact HK.out)) hk (.inl rfl)); have n1_ := Aside0.mk (hb); have n2_ := Aside0.mk (hi); clear HK; clear HB; clear HI0; have HK := n0_; have HB := n1_; have HI0 := n2_; clear n0_ n1_ n2_) | ((with_reducible refine gate_callee (f := 86) rfl ?_); refine goesL_ (some 13) rfl rfl Try.func86 (by kernel_rfl) rfl #[.pointer (some ⟨g, 0, none⟩), .int .i64 a1, .int .i64 (wrap64 (1 + t495)), .int .i64 1] rfl (by (try simp only [List.map_toArray, List.map_cons, List.map_nil]); first | done | rfl) ?_; (with_reducible refine (spec_l20Part.calls k g s0_0 t496 a1 (wrap64 (1 + t495)) 1 t497 t500 w0 _ ?side1 ?side2 A5.out).mono ?_); (case side1 => repeat (first | (with_reducible first | exact HI0.out | apply IsS90.alloc | apply IsS90.drewN | apply IsS90.drew | apply IsS90.set_1) | exact HI0.out)); (case side2 => repeat (first | (with_reducible first | exact HB.out | apply below_alloc | apply pw_below_drewN | apply below_drew1 | refine below_set ?_ (IsS90.ge HI0.out)) | exact HB.out)); rintro e w35 ⟨v498, rfl, ho0, hi, hb, hk⟩; refine ⟨_, rfl, ?_⟩; have n0_ := Aside0.mk (Kd.R_lower ho0 (keep_size (w := w) (g := g) (row := none) (by repeat (first | (with_reducible first | exact HK.out | apply KeepBut.set_ | apply keep_drewN | apply keep_drew | apply keep_alloc) | exact HK.out)))); have n1_ := Aside0.mk (KeepBut.trans (by repeat (first | (with_reducible first | exact HK.out | apply KeepBut.set_ | apply keep_drewN | apply keep_drew | apply keep_alloc) | exact HK.out)) hk (.inl rfl)); have n2_ := Aside0.mk (hb); have n3_ := Aside0.mk (hi); clear HK; clear HB; clear HI0; have HO499 := n0_; have HK := n1_; have HB := n2_; have HI0 := n3_; clear n0_ n1_ n2_ n3_; (try clear ho0)) | ((with_reducible refine gate_callee (f := 85) rfl ?_); refine goesL_ (some 16) rfl rfl Try.func85 (by kernel_rfl) rfl #[.pointer (some ⟨g, 0, none⟩), .int .i64 a2] rfl (by (try simp only [List.map_toArray, List.map_cons, List.map_nil]); first | done | rfl) ?_; (with_reducible refine (spec_l20Rd_odd.calls k g s0_0 t500 a2 false t502 w0 _ ?side1 ?side2 A6.out).mono ?_); (case side1 => repeat (first | (with_reducible first | exact HI0.out | apply IsS90.alloc | apply IsS90.drewN | apply IsS90.drew | apply IsS90.set_1) | exact HI0.out)); (case side2 => repeat (first | (with_reducible first | exact HB.out | apply below_alloc | apply pw_below_drewN | apply below_drew1 | refine below_set ?_ (IsS90.ge HI0.out)) | exact HB.out)); rintro e w36 ⟨rfl, hi, hb, hk⟩; refine ⟨_, rfl, ?_⟩; have n0_ := Aside0.mk (Kd.R_mono (Kd.R_keep (IsS90.apart (show IsS90 w0 _ g s0_0 t500 from by repeat (first | (with_reducible first | exact HI0.out | apply IsS90.alloc | apply IsS90.drewN | apply IsS90.drew | apply IsS90.set_1) | exact HI0.out)) (by (with_reducible repeat (first | apply Kd.R_alloc | apply Kd.R_drewN | apply Kd.R_drew)); exact HO499.out) (by decide)) hk (fun _ h => h.2)) (fun _ h => h.1)); have n1_ := Aside0.mk (KeepBut.trans (by repeat (first | (with_reducible first | exact HK.out | apply KeepBut.set_ | apply keep_drewN | apply keep_drew | apply keep_alloc) | exact HK.out)) hk (.inl rfl)); have n2_ := Aside0.mk (hb); have n3_ := Aside0.mk (hi); clear HO499; clear HK; clear HB; clear HI0; have HO499 := n0_; have HK := n1_; have HB := n2_; have HI0 := n3_; clear n0_ n1_ n2_ n3_))
  go_ret
  exact ⟨_, by first | rfl | (simp [errW_none, errW_some] <;> rfl) | (simp [*, errW_none, errW_some] <;> rfl), by (with_reducible repeat (first | apply Kd.R_alloc | apply Kd.R_drewN | apply Kd.R_drew)); exact HO499.out, by repeat (first | (with_reducible first | exact HI0.out | apply IsS90.alloc | apply IsS90.drewN | apply IsS90.drew | apply IsS90.set_1) | exact HI0.out), by repeat (first | (with_reducible first | exact HB.out | apply below_alloc | apply pw_below_drewN | apply below_drew1 | refine below_set ?_ (IsS90.ge HI0.out)) | exact HB.out), by repeat (first | (with_reducible first | exact HK.out | apply KeepBut.set_ | apply keep_drewN | apply keep_drew | apply keep_alloc) | exact HK.out)⟩

/-! ### spec_DrawTermWays: function 20 -/
def spec_DrawTermWays.f (k : Nat) (l0 : List Int) : Option (List Int × (List (List Int)) × (List (S42))) := (spec_l20Open.f l0).bind fun bt520 => ((spec_l20Urn.f k bt520.1 bt520.2 14).bind fun bt523 => ((spec_l20Rule.f k bt520.1 bt523.2 (bt523.1.length : Int) 14).bind fun bt527 => ((spec_l20Term.f k bt520.1 bt527.2 (bt523.1.length : Int) 14).bind fun bt531 => (some (bt523.1, bt527.1, bt531.1)))))
set_option maxHeartbeats 8000000 in
set_option maxRecDepth 100000 in
theorem spec_DrawTermWays.calls (k : Nat) (A0 : Option Addr) (c0 : Nat) (l0 : List Int) (r1 : List Int) (r2 : List (List Int)) (r3 : List (S42)) (w : World) (hr0 : Kd.C (Kd.int .u8) w A0 l0.length l0) (hc0 : l0.length ≤ c0) (h : spec_DrawTermWays.f k l0 = some (r1, r2, r3)) :
  Calls Try.prog 20 #[.slice A0 l0.length c0] w fun e w' => ∃ v0_ v1_ v2_ : Value, e = .returned (.tuple #[v0_, v1_, v2_]) ∧ Kd.R (Kd.int .i64) 3 w' w.heap.size (fun _ => True) v0_ r1 ∧ Kd.Q (Kd.slice 3 (Kd.int .i64)) 22 w' w.heap.size (fun k_ => some k_ ≠ (v0_ : Value).ownBlock) v1_ r2 ∧ Kd.R k42 42 w' w.heap.size (fun _ => True) v2_ r3 ∧ Below w.heap.size w w' := by
 have HR0 := Aside0.mk hr0
 have HC0 := Aside0.mk hc0
 clear hr0 hc0
 have HB := Aside0.mk (Below.refl w.heap.size w)
 have H : ((spec_l20Open.f l0).bind fun bt520 => ((spec_l20Urn.f k bt520.1 bt520.2 14).bind fun bt523 => ((spec_l20Rule.f k bt520.1 bt523.2 (bt523.1.length : Int) 14).bind fun bt527 => ((spec_l20Term.f k bt520.1 bt527.2 (bt523.1.length : Int) 14).bind fun bt531 => (some (bt523.1, bt527.1, bt531.1)))))) = some (r1, r2, r3) := h
 clear h
 replace H := Option.bind_eq_some_iff.mp H
 obtain ⟨⟨t520, t521⟩, A20, H⟩ := H
 replace H : ((spec_l20Urn.f k t520 t521 14).bind fun bt523 => ((spec_l20Rule.f k t520 bt523.2 (bt523.1.length : Int) 14).bind fun bt527 => ((spec_l20Term.f k t520 bt527.2 (bt523.1.length : Int) 14).bind fun bt531 => (some (bt523.1, bt527.1, bt531.1))))) = some (r1, r2, r3) := H
 have A2 := Aside0.mk A20
 clear A20
 replace H := Option.bind_eq_some_iff.mp H
 obtain ⟨⟨t523, t526⟩, A30, H⟩ := H
 replace H : ((spec_l20Rule.f k t520 t526 (t523.length : Int) 14).bind fun bt527 => ((spec_l20Term.f k t520 bt527.2 (t523.length : Int) 14).bind fun bt531 => (some (t523, bt527.1, bt531.1)))) = some (r1, r2, r3) := H
 have A3 := Aside0.mk A30
 clear A30
 replace H := Option.bind_eq_some_iff.mp H
 obtain ⟨⟨t527, t530⟩, A40, H⟩ := H
 replace H : ((spec_l20Term.f k t520 t530 (t523.length : Int) 14).bind fun bt531 => (some (t523, t527, bt531.1))) = some (r1, r2, r3) := H
 have A4 := Aside0.mk A40
 clear A40
 replace H := Option.bind_eq_some_iff.mp H
 obtain ⟨⟨t531, t534⟩, A50, H⟩ := H
 replace H : (some (t523, t527, t531)) = some (r1, r2, r3) := H
 have A5 := Aside0.mk A50
 clear A50
 simp only [Option.some.injEq, Prod.mk.injEq] at H
 obtain ⟨rfl, rfl, rfl⟩ := H
 go_enter Try.func20, Try.ntmps20
 go_wp2_with (first | ((with_reducible refine gate_callee (f := 56) rfl ?_); refine goesL_ (some 8) rfl rfl Try.func56 (by kernel_rfl) rfl #[.slice A0 l0.length c0] rfl (by (try simp only [List.map_toArray, List.map_cons, List.map_nil]); first | done | rfl) ?_; (with_reducible refine (spec_l20Open.calls _ _ l0 t520 t521 w _ ?side1 ?side2 ?side3 A2.out).mono ?_); (case side1 => repeat (first | (with_reducible first | exact HB.out | apply below_alloc | apply pw_below_drewN | apply below_drew1) | exact HB.out)); (case side2 => exact HR0.out); (case side3 => exact HC0.out); rintro e w6 ⟨g522, rfl, hi, hb, hb2⟩; refine ⟨_, rfl, ?_⟩; have n0_ := Aside0.mk (hb); have n1_ := Aside0.mk (hi); clear HB; have HB := n0_; have HI522 := n1_; clear n0_ n1_) | ((with_reducible refine gate_callee (f := 57) rfl ?_); refine goesL_ (some 10) rfl rfl Try.func57 (by kernel_rfl) rfl #[.pointer (some ⟨g522, 0, none⟩), .int .i64 14] rfl (by (try simp only [List.map_toArray, List.map_cons, List.map_nil]); first | done | rfl) ?_; (with_reducible refine (spec_l20Urn.calls k g522 t520 t521 14 t523 t526 w _ ?side1 ?side2 A3.out).mono ?_); (case side1 => repeat (first | (with_reducible first | exact HI522.out | apply IsS90.alloc | apply IsS90.drewN | apply IsS90.drew | apply IsS90.set_1) | exact HI522.out)); (case side2 => repeat (first | (with_reducible first | exact HB.out | apply below_alloc | apply pw_below_drewN | apply below_drew1 | refine below_set ?_ (IsS90.ge HI522.out)) | exact HB.out)); rintro e w7 ⟨v524, rfl, ho0, hi, hb, hk⟩; refine ⟨_, rfl, ?_⟩; have n0_ := Aside0.mk (Kd.R_lower ho0 (below_size (by repeat (first | (with_reducible first | exact HB.out | apply below_alloc | apply pw_below_drewN | apply below_drew1 | refine below_set ?_ (IsS90.ge HI522.out)) | exact HB.out)))); have n1_ := Aside0.mk (hb); have n2_ := Aside0.mk (hi); clear HB; clear HI522; have HO525 := n0_; have HB := n1_; have HI522 := n2_; clear n0_ n1_ n2_; (try clear ho0); obtain ⟨Ao8, co8, eo8⟩ := Kd.R_slice HO525.out; subst eo8) | ((with_reducible refine gate_callee (f := 58) rfl ?_); refine goesL_ (some 15) rfl rfl Try.func58 (by kernel_rfl) rfl #[.pointer (some ⟨g522, 0, none⟩), .int .i64 (t523.length : Int), .int .i64 14] rfl (by (try simp only [List.map_toArray, List.map_cons, List.map_nil]); first | done | rfl) ?_; (with_reducible refine (spec_l20Rule.calls k g522 t520 t526 (t523.length : Int) 14 t527 t530 w _ ?side1 ?side2 A4.out).mono ?_); (case side1 => repeat (first | (with_reducible first | exact HI522.out | apply IsS90.alloc | apply IsS90.drewN | apply IsS90.drew | apply IsS90.set_1) | exact HI522.out)); (case side2 => repeat (first | (with_reducible first | exact HB.out | apply below_alloc | apply pw_below_drewN | apply below_drew1 | refine below_set ?_ (IsS90.ge HI522.out)) | exact HB.out)); rintro e w9 ⟨v528, rfl, ho0, hi, hb, hk⟩; refine ⟨_, rfl, ?_⟩; have n0_ := Aside0.mk (Kd.R_mono (Kd.R_keep (IsS90.apart (show IsS90 w _ g522 t520 t526 from by repeat (first | (with_reducible first | exact HI522.out | apply IsS90.alloc | apply IsS90.drewN | apply IsS90.drew | apply IsS90.set_1) | exact HI522.out)) (by (with_reducible repeat (first | apply Kd.R_alloc | apply Kd.R_drewN | apply Kd.R_drew)); exact HO525.out) (by decide)) hk (fun _ h => h.2)) (fun _ h => h.1)); have n1_ := Aside0.mk (Kd.Q_lower (Kd.Q_new' ho0 (Kd.R_lt (by (with_reducible repeat (first | apply Kd.R_alloc | apply Kd.R_drewN | apply Kd.R_drew)); exact HO525.out))) (below_size (by repeat (first | (with_reducible first | exact HB.out | apply below_alloc | apply pw_below_drewN | apply below_drew1 | refine below_set ?_ (IsS90.ge HI522.out)) | exact HB.out)))); have n2_ := Aside0.mk (hb); have n3_ := Aside0.mk (hi); clear HO525; clear HB; clear HI522; have HO525 := n0_; have HO529 := n1_; have HB := n2_; have HI522 := n3_; clear n0_ n1_ n2_ n3_; (try clear ho0)) | ((with_reducible refine gate_callee (f := 59) rfl ?_); refine goesL_ (some 19) rfl rfl Try.func59 (by kernel_rfl) rfl #[.pointer (some ⟨g522, 0, none⟩), .int .i64 (t523.length : Int), .int .i64 14] rfl (by (try simp only [List.map_toArray, List.map_cons, List.map_nil]); first | done | rfl) ?_; (with_reducible refine (spec_l20Term.calls k g522 t520 t530 (t523.length : Int) 14 t531 t534 w _ ?side1 ?side2 A5.out).mono ?_); (case side1 => repeat (first | (with_reducible first | exact HI522.out | apply IsS90.alloc | apply IsS90.drewN | apply IsS90.drew | apply IsS90.set_1) | exact HI522.out)); (case side2 => repeat (first | (with_reducible first | exact HB.out | apply below_alloc | apply pw_below_drewN | apply below_drew1 | refine below_set ?_ (IsS90.ge HI522.out)) | exact HB.out)); rintro e w10 ⟨v532, rfl, ho0, hi, hb, hk⟩; refine ⟨_, rfl, ?_⟩; have n0_ := Aside0.mk (Kd.R_mono (Kd.R_keep (IsS90.apart (show IsS90 w _ g522 t520 t530 from by repeat (first | (with_reducible first | exact HI522.out | apply IsS90.alloc | apply IsS90.drewN | apply IsS90.drew | apply IsS90.set_1) | exact HI522.out)) (by (with_reducible repeat (first | apply Kd.R_alloc | apply Kd.R_drewN | apply Kd.R_drew)); exact HO525.out) (by decide)) hk (fun _ h => h.2)) (fun _ h => h.1)); have n1_ := Aside0.mk (Kd.Q_mono (Kd.Q_keep (IsS90.apartQ (show IsS90 w _ g522 t520 t530 from by repeat (first | (with_reducible first | exact HI522.out | apply IsS90.alloc | apply IsS90.drewN | apply IsS90.drew | apply IsS90.set_1) | exact HI522.out)) (by (with_reducible repeat (first | apply Kd.Q_alloc | apply Kd.Q_drewN | apply Kd.Q_drew)); exact HO529.out) (by decide)) hk (fun _ h => h.2)) (fun _ h => h.1)); have n2_ := Aside0.mk (Kd.R_lower ho0 (below_size (by repeat (first | (with_reducible first | exact HB.out | apply below_alloc | apply pw_below_drewN | apply below_drew1 | refine below_set ?_ (IsS90.ge HI522.out)) | exact HB.out)))); have n3_ := Aside0.mk (hb); have n4_ := Aside0.mk (hi); clear HO525; clear HO529; clear HB; clear HI522; have HO525 := n0_; have HO529 := n1_; have HO533 := n2_; have HB := n3_; have HI522 := n4_; clear n0_ n1_ n2_ n3_ n4_; (try clear ho0)))
 go_ret3
 exact ⟨_, _, _, by first | rfl | (simp [errW_none, errW_some] <;> rfl) | (simp [*, errW_none, errW_some] <;> rfl), by (with_reducible repeat (first | apply Kd.R_alloc | apply Kd.R_drewN | apply Kd.R_drew)); exact HO525.out, by (with_reducible repeat (first | apply Kd.Q_alloc | apply Kd.Q_drewN | apply Kd.Q_drew)); exact Kd.Q_mono HO529.out (fun _ hk => hk.2), by (with_reducible repeat (first | apply Kd.R_alloc | apply Kd.R_drewN | apply Kd.R_drew)); exact HO533.out, by repeat (first | (with_reducible first | exact HB.out | apply below_alloc | apply pw_below_drewN | apply below_drew1 | refine below_set ?_ (IsS90.ge HI522.out)) | exact HB.out)⟩

/-! ### laws_alive: function 21 -/
def laws_alive.f (k : Nat)  : Option (Bool) := (impl_UrnOk.f k (([1] : List Int))).bind fun t538 => (if t538 = true then ((impl_UrnOk.f k (([] : List Int))).bind fun t542 => (some (!t542))) else (some false))
set_option maxHeartbeats 8000000 in
set_option maxRecDepth 100000 in
theorem laws_alive.calls (k : Nat)  (r : Bool) (w : World) (h : laws_alive.f k  = some r) :
  Calls Try.prog 21 #[] w fun e w' => e = .returned (.bool r) ∧ Below w.heap.size w w' := by
 have HB := Aside0.mk (Below.refl w.heap.size w)
 have H : ((impl_UrnOk.f k (([1] : List Int))).bind fun t538 => (if t538 = true then ((impl_UrnOk.f k (([] : List Int))).bind fun t542 => (some (!t542))) else (some false))) = some r := h
 clear h
 obtain ⟨y535, hy535⟩ : ∃ y_ : List Int, y_ = (([1] : List Int)) := ⟨_, rfl⟩
 replace H : ((impl_UrnOk.f k y535).bind fun t538 => (if t538 = true then ((impl_UrnOk.f k (([] : List Int))).bind fun t542 => (some (!t542))) else (some false))) = some r := by first | (rw [hy535]; with_reducible exact H) | (have H2_ := (Option.bind_some _ _).symm.trans H; rw [hy535]; with_reducible exact H2_) | (have H2_ := (Option.bind_some _ _).symm.trans H; with_reducible exact H2_) | with_reducible exact H | (rw [hy535]; exact H) | exact H
 have Ny535 := Aside0.mk hy535
 clear hy535
 replace H := Option.bind_eq_some_iff.mp H
 obtain ⟨t538, A10, H⟩ := H
 replace H : (if t538 = true then ((impl_UrnOk.f k (([] : List Int))).bind fun t542 => (some (!t542))) else (some false)) = some r := H
 have A1 := Aside0.mk A10
 clear A10
 by_cases c2 : t538 = true
 ·subst c2
  have H1 : ((impl_UrnOk.f k (([] : List Int))).bind fun t542 => (some (!t542))) = some r := by rw [if_pos rfl] at H; exact H
  clear H
  have H := H1
  clear H1
  obtain ⟨y539, hy539⟩ : ∃ y_ : List Int, y_ = (([] : List Int)) := ⟨_, rfl⟩
  replace H : ((impl_UrnOk.f k y539).bind fun t542 => (some (!t542))) = some r := by first | (rw [hy539]; with_reducible exact H) | (have H2_ := (Option.bind_some _ _).symm.trans H; rw [hy539]; with_reducible exact H2_) | (have H2_ := (Option.bind_some _ _).symm.trans H; with_reducible exact H2_) | with_reducible exact H | (rw [hy539]; exact H) | exact H
  have Ny539 := Aside0.mk hy539
  clear hy539
  replace H := Option.bind_eq_some_iff.mp H
  obtain ⟨t542, A30, H⟩ := H
  replace H : (some (!t542)) = some r := H
  have A3 := Aside0.mk A30
  clear A30
  obtain rfl := Option.some.inj H
  go_enter Try.func21, Try.ntmps21
  go_wp2_with (first | ((with_reducible refine gate_dst (N := 1) rfl ?_); (try (refine gate_guard (by rfl) ?_; dsimp only)); refine Kd.R_lit (Kd.int .i64) _ 3 ?hg (N := 1) ?hd (xs := ([1] : List Int)) (inner := [.int .i64 1]) (ok := fun _ => True) (okp := fun _ => True) ?hr ?hp (fun _ hk => hk) trivial (Below.refl _ _) (Nat.le_refl _) (by simp) ?_; (case hd => rfl); (case hg => rfl); (case hr => first | (go_simp; done) | (go_simp; rfl)); (case hp => exact (Reps.one (show Kd.M (Kd.int .i64) _ _ _ 1 [.int .i64 1] from rfl) (Reps.none _ _))); intro v536 w4 ho5 hb hg_ hnew_; clear hg_ hnew_; (first | rw [← Ny535.out] at ho5 | (simp only [Int.reduceToNat] at ho5; rw [← Ny535.out] at ho5)); have n0_ := Aside0.mk (Kd.R_lower ho5 (below_size (by repeat first | with_reducible exact HB.out | apply below_alloc | apply pw_below_drewN | apply below_drew1))); have n1_ := Aside0.mk (below_step (by repeat first | with_reducible exact HB.out | apply below_alloc | apply pw_below_drewN | apply below_drew1) hb); clear HB; have HO537 := n0_; have HB := n1_; clear n0_ n1_; clear hb ho5; obtain ⟨Ao6, co6, eo6⟩ := Kd.R_slice HO537.out; subst eo6) | ((with_reducible refine gate_callee (f := 60) rfl ?_); refine goesL_ (some 2) rfl rfl Try.func60 (by kernel_rfl) rfl #[.slice Ao6 y535.length co6] rfl (by (try simp only [List.map_toArray, List.map_cons, List.map_nil]); first | done | rfl) ?_; (with_reducible refine (impl_UrnOk.calls k _ _ y535 true _ ?side1 ?side2 A1.out).mono ?_); (case side1 => repeat (first | exact (Kd.R_reads' HO537.out).2.2 | (with_reducible refine Kd.C_alloc ?_ _) | (with_reducible refine Kd.C_drewN ?_ _) | (with_reducible refine Kd.C_drew ?_))); (case side2 => exact (Kd.R_reads' HO537.out).2.1); rintro e w' ⟨rfl, ⟨nd, rfl⟩⟩; refine ⟨_, rfl, ?_⟩) | ((with_reducible refine gate_dst (N := 4) rfl ?_); (try (refine gate_guard (by rfl) ?_; dsimp only)); refine Kd.R_lit (Kd.int .i64) _ 3 ?hg (N := 4) ?hd (xs := ([] : List Int)) (inner := []) (ok := fun _ => True) (okp := fun _ => True) ?hr ?hp (fun _ hk => hk) trivial (Below.refl _ _) (Nat.le_refl _) (by simp) ?_; (case hd => rfl); (case hg => rfl); (case hr => first | (go_simp; done) | (go_simp; rfl)); (case hp => exact (Reps.none _ _)); intro v540 w7 ho8 hb hg_ hnew_; clear hg_ hnew_; (first | rw [← Ny539.out] at ho8 | (simp only [Int.reduceToNat] at ho8; rw [← Ny539.out] at ho8)); have n0_ := Aside0.mk (Kd.R_elder' (by (with_reducible repeat (first | apply Kd.R_alloc | apply Kd.R_drewN | apply Kd.R_drew)); exact HO537.out) (Kd.R_base ho8) hb); have n1_ := Aside0.mk (Kd.R_lower (Kd.R_new' ho8 (Kd.R_lt (by (with_reducible repeat (first | apply Kd.R_alloc | apply Kd.R_drewN | apply Kd.R_drew)); exact HO537.out))) (below_size (by repeat first | with_reducible exact HB.out | apply below_alloc | apply pw_below_drewN | apply below_drew1))); have n2_ := Aside0.mk (below_step (by repeat first | with_reducible exact HB.out | apply below_alloc | apply pw_below_drewN | apply below_drew1) hb); clear HO537; clear HB; have HO537 := n0_; have HO541 := n1_; have HB := n2_; clear n0_ n1_ n2_; clear hb ho8; obtain ⟨Ao9, co9, eo9⟩ := Kd.R_slice HO541.out; subst eo9) | (go_at_call 60; (with_reducible refine (impl_UrnOk.calls k _ _ y539 t542 _ ?side1 ?side2 A3.out).mono ?_); (case side1 => repeat (first | exact (Kd.R_reads' HO541.out).2.2 | (with_reducible refine Kd.C_alloc ?_ _) | (with_reducible refine Kd.C_drewN ?_ _) | (with_reducible refine Kd.C_drew ?_))); (case side2 => exact (Kd.R_reads' HO541.out).2.1); rintro e w' ⟨rfl, ⟨nd, rfl⟩⟩))
  go_ret
  exact ⟨by first | rfl | (simp [errW_none, errW_some] <;> rfl) | (simp [*, errW_none, errW_some] <;> rfl), by repeat first | with_reducible exact HB.out | apply below_alloc | apply pw_below_drewN | apply below_drew1⟩
 ·replace c2 := Bool.eq_false_iff.mpr c2
  subst c2
  have H1 : (some false) = some r := by rw [if_neg (show ¬ (false = true) by decide)] at H; exact H
  clear H
  have H := H1
  clear H1
  obtain rfl := Option.some.inj H
  go_enter Try.func21, Try.ntmps21
  go_wp2_with (first | ((with_reducible refine gate_dst (N := 1) rfl ?_); (try (refine gate_guard (by rfl) ?_; dsimp only)); refine Kd.R_lit (Kd.int .i64) _ 3 ?hg (N := 1) ?hd (xs := ([1] : List Int)) (inner := [.int .i64 1]) (ok := fun _ => True) (okp := fun _ => True) ?hr ?hp (fun _ hk => hk) trivial (Below.refl _ _) (Nat.le_refl _) (by simp) ?_; (case hd => rfl); (case hg => rfl); (case hr => first | (go_simp; done) | (go_simp; rfl)); (case hp => exact (Reps.one (show Kd.M (Kd.int .i64) _ _ _ 1 [.int .i64 1] from rfl) (Reps.none _ _))); intro v536 w10 ho11 hb hg_ hnew_; clear hg_ hnew_; (first | rw [← Ny535.out] at ho11 | (simp only [Int.reduceToNat] at ho11; rw [← Ny535.out] at ho11)); have n0_ := Aside0.mk (Kd.R_lower ho11 (below_size (by repeat first | with_reducible exact HB.out | apply below_alloc | apply pw_below_drewN | apply below_drew1))); have n1_ := Aside0.mk (below_step (by repeat first | with_reducible exact HB.out | apply below_alloc | apply pw_below_drewN | apply below_drew1) hb); clear HB; have HO537 := n0_; have HB := n1_; clear n0_ n1_; clear hb ho11; obtain ⟨Ao12, co12, eo12⟩ := Kd.R_slice HO537.out; subst eo12) | ((with_reducible refine gate_callee (f := 60) rfl ?_); refine goesL_ (some 2) rfl rfl Try.func60 (by kernel_rfl) rfl #[.slice Ao12 y535.length co12] rfl (by (try simp only [List.map_toArray, List.map_cons, List.map_nil]); first | done | rfl) ?_; (with_reducible refine (impl_UrnOk.calls k _ _ y535 false _ ?side1 ?side2 A1.out).mono ?_); (case side1 => repeat (first | exact (Kd.R_reads' HO537.out).2.2 | (with_reducible refine Kd.C_alloc ?_ _) | (with_reducible refine Kd.C_drewN ?_ _) | (with_reducible refine Kd.C_drew ?_))); (case side2 => exact (Kd.R_reads' HO537.out).2.1); rintro e w' ⟨rfl, ⟨nd, rfl⟩⟩; refine ⟨_, rfl, ?_⟩))
  go_ret
  exact ⟨by first | rfl | (simp [errW_none, errW_some] <;> rfl) | (simp [*, errW_none, errW_some] <;> rfl), by repeat first | with_reducible exact HB.out | apply below_alloc | apply pw_below_drewN | apply below_drew1⟩

/-! ### impl_LengthOf: function 22 -/
def impl_LengthOf.f (k : Nat) (a0 : Int) (l1 : List (S42)) : Option (Int) := (impl_TermOk.f k a0 l1).bind fun t543 => (if t543 = true then ((impl_lengthOf.f k l1).bind fun t544 => (some t544)) else (some (-1)))
set_option maxHeartbeats 8000000 in
set_option maxRecDepth 100000 in
theorem impl_LengthOf.calls (k : Nat) (a0 : Int) (A1 : Option Addr) (c1 : Nat) (l1 : List (S42)) (r : Int) (w : World) (hr1 : Kd.C k42 w A1 l1.length l1) (hc1 : l1.length ≤ c1) (h : impl_LengthOf.f k a0 l1 = some r) :
  Calls Try.prog 22 #[.int .i64 a0, .slice A1 l1.length c1] w fun e w' => e = .returned (.int .i64 r) ∧ Below w.heap.size w w' := by
 have HR1 := Aside0.mk hr1
 have HC1 := Aside0.mk hc1
 clear hr1 hc1
 have HB := Aside0.mk (Below.refl w.heap.size w)
 have H : ((impl_TermOk.f k a0 l1).bind fun t543 => (if t543 = true then ((impl_lengthOf.f k l1).bind fun t544 => (some t544)) else (some (-1)))) = some r := h
 clear h
 replace H := Option.bind_eq_some_iff.mp H
 obtain ⟨t543, A30, H⟩ := H
 replace H : (if t543 = true then ((impl_lengthOf.f k l1).bind fun t544 => (some t544)) else (some (-1))) = some r := H
 have A3 := Aside0.mk A30
 clear A30
 by_cases c4 : t543 = true
 ·subst c4
  have H1 : ((impl_lengthOf.f k l1).bind fun t544 => (some t544)) = some r := by rw [if_pos rfl] at H; exact H
  clear H
  have H := H1
  clear H1
  replace H := Option.bind_eq_some_iff.mp H
  obtain ⟨t544, A50, H⟩ := H
  replace H : (some t544) = some r := H
  have A5 := Aside0.mk A50
  clear A50
  obtain rfl := Option.some.inj H
  go_enter Try.func22, Try.ntmps22
  go_wp2_with (first | ((with_reducible refine gate_callee (f := 49) rfl ?_); refine goesL_ (some 7) rfl rfl Try.func49 (by kernel_rfl) rfl #[.int .i64 a0, .slice A1 l1.length c1] rfl (by (try simp only [List.map_toArray, List.map_cons, List.map_nil]); first | done | rfl) ?_; (with_reducible refine (impl_TermOk.calls k a0 _ _ l1 true _ ?side1 ?side2 A3.out).mono ?_); (case side1 => repeat (first | exact HR1.out | (with_reducible refine Kd.C_alloc ?_ _) | (with_reducible refine Kd.C_drewN ?_ _) | (with_reducible refine Kd.C_drew ?_))); (case side2 => exact HC1.out); rintro e w6 ⟨rfl, hb⟩; refine ⟨_, rfl, ?_⟩; have n0_ := Aside0.mk (below_step (by repeat first | with_reducible exact HB.out | apply below_alloc | apply pw_below_drewN | apply below_drew1) hb); clear HB; have HB := n0_; clear n0_) | ((with_reducible refine gate_callee (f := 51) rfl ?_); refine goesL_ (some 10) rfl rfl Try.func51 (by kernel_rfl) rfl #[.slice A1 l1.length c1] rfl (by (try simp only [List.map_toArray, List.map_cons, List.map_nil]); first | done | rfl) ?_; (with_reducible refine (impl_lengthOf.calls k _ _ l1 t544 _ ?side1 ?side2 A5.out).mono ?_); (case side1 => repeat (first | exact (Kd.C_below HR1.out HB.out) | (with_reducible refine Kd.C_alloc ?_ _) | (with_reducible refine Kd.C_drewN ?_ _) | (with_reducible refine Kd.C_drew ?_))); (case side2 => exact HC1.out); rintro e w7 ⟨rfl, hb⟩; refine ⟨_, rfl, ?_⟩; have n0_ := Aside0.mk (below_step (by repeat first | with_reducible exact HB.out | apply below_alloc | apply pw_below_drewN | apply below_drew1) hb); clear HB; have HB := n0_; clear n0_))
  go_ret
  exact ⟨by first | rfl | (simp [errW_none, errW_some] <;> rfl) | (simp [*, errW_none, errW_some] <;> rfl), by repeat first | with_reducible exact HB.out | apply below_alloc | apply pw_below_drewN | apply below_drew1⟩
 ·replace c4 := Bool.eq_false_iff.mpr c4
  subst c4
  have H1 : (some (-1)) = some r := by rw [if_neg (show ¬ (false = true) by decide)] at H; exact H
  clear H
  have H := H1
  clear H1
  obtain rfl := Option.some.inj H
  go_enter Try.func22, Try.ntmps22
  go_wp2_with (first | ((with_reducible refine gate_callee (f := 49) rfl ?_); refine goesL_ (some 7) rfl rfl Try.func49 (by kernel_rfl) rfl #[.int .i64 a0, .slice A1 l1.length c1] rfl (by (try simp only [List.map_toArray, List.map_cons, List.map_nil]); first | done | rfl) ?_; (with_reducible refine (impl_TermOk.calls k a0 _ _ l1 false _ ?side1 ?side2 A3.out).mono ?_); (case side1 => repeat (first | exact HR1.out | (with_reducible refine Kd.C_alloc ?_ _) | (with_reducible refine Kd.C_drewN ?_ _) | (with_reducible refine Kd.C_drew ?_))); (case side2 => exact HC1.out); rintro e w8 ⟨rfl, hb⟩; refine ⟨_, rfl, ?_⟩; have n0_ := Aside0.mk (below_step (by repeat first | with_reducible exact HB.out | apply below_alloc | apply pw_below_drewN | apply below_drew1) hb); clear HB; have HB := n0_; clear n0_))
  go_ret
  exact ⟨by first | rfl | (simp [errW_none, errW_some] <;> rfl) | (simp [*, errW_none, errW_some] <;> rfl), by repeat first | with_reducible exact HB.out | apply below_alloc | apply pw_below_drewN | apply below_drew1⟩

def TRA (k : Nat) (urn : List Int) (rule : List (List Int)) (u : List Int) (s : Int) : Option Int := (impl_ruleWays.f k urn rule u).bind fun x => some (wrap64 (s + x))
set_option maxHeartbeats 8000000 in
set_option maxRecDepth 100000 in
theorem ra1_told (W : World) (nb : Nat) (k : Nat) {A0 A1 : Option Addr} {c0 c1 : Nat} {urn : List Int} {rule : List (List Int)} {ub rb : Nat} (h0 : urn.length ≤ c0) (h1 : rule.length ≤ c1)
  (hC0 : ∀ w, But nb none W w → Kd.C (Kd.int .i64) w A0 urn.length urn) (hC1 : ∀ w, But nb none W w → Kd.C (Kd.slice 3 (Kd.int .i64)) w A1 rule.length rule)
  (hub : W.heap[ub]? = some (.cells #[.slice A0 urn.length c0] 22 (0, 0))) (hrb : W.heap[rb]? = some (.cells #[.slice A1 rule.length c1] 23 (0, 0))) (nub : ub ≠ nb) (nrb : rb ≠ nb) :
  Told W nb 61 #[.pointer (some ⟨nb, 0, none⟩), .pointer (some ⟨ub, 0, none⟩), .pointer (some ⟨rb, 0, none⟩)] (TRA k urn rule) := by
 refine ⟨fun args w => enters_ (P := Try.prog) Try.func61 (by kernel_rfl) rfl args w, ?_⟩
 intro Au cu u s r w hB hCu hcu hs h
 obtain ⟨x, hx, h⟩ := Option.bind_eq_some_iff.mp h
 have hr : wrap64 (s + x) = r := Option.some.inj h
 subst hr; clear h
 have HCU := Aside0.mk hCu
 have HCU2 := Aside0.mk hcu
 have HS := Aside0.mk hs
 have HX := Aside0.mk hx
 have HU := Aside0.mk (hB.keep hub nub (by simp))
 have HRU := Aside0.mk (hB.keep hrb nrb (by simp))
 have HC0 := Aside0.mk (hC0 w hB)
 have HC1 := Aside0.mk (hC1 w hB)
 have H0 := Aside0.mk h0
 have H1 := Aside0.mk h1
 have e0 := cell_of_one hs
 have e1 := cell_of_one HU.out
 have e2 := cell_of_one HRU.out
 have e3 := free_of_one hs
 clear hB hCu hcu hs hx hub hrb hC0 hC1 h0 h1
 go_enter Try.func61, Try.ntmps61
 go_wp2
 go_region_with (first | (go_at_call 54; (with_reducible refine (impl_ruleWays.calls k _ _ urn _ _ rule _ _ u _ _ ?sd1 ?sd2 ?sd3 ?sd4 ?sd5 ?sd6 HX.out).mono ?_); (case sd1 => exact Kd.C_drew HC0.out); (case sd2 => exact H0.out); (case sd3 => exact Kd.C_drew HC1.out); (case sd4 => exact H1.out); (case sd5 => exact Kd.C_drew HCU.out); (case sd6 => exact HCU2.out); rintro e w' ⟨rfl, hb⟩; have HB2 := Aside0.mk (show Below w.heap.size w w' from (below_drew (Below.refl _ _)).trans hb); have e4 := cell_of_one (bl_keep HB2.out HS.out (blk_lt HS.out)); have e7 := free_of_one (bl_keep HB2.out HS.out (blk_lt HS.out)); have e5 := cell_of_one (bl_keep HB2.out HU.out (blk_lt HU.out)); have e6 := cell_of_one (bl_keep HB2.out HRU.out (blk_lt HRU.out)); clear hb))
 all_goals (try go_wp2)
 all_goals go_end0
 all_goals exact ⟨rfl, by (try rw [i64_w]); exact cnt_set (bl_keep HB2.out HS.out (blk_lt HS.out)), (But.of_below HB2.out).set_nb 0 _⟩
def impl_RuleAll.f (k : Nat) (l0 : List Int) (l1 : List (List Int)) (a2 : Int) : Option Int := (impl_ruleAsked.f k l0 l1).bind fun t => if t = true then (if a2 < 0 then some (-1) else if a2 > 6 then some (-1) else if l0.length ≤ 100 then wk (TRA k l0 l1) l0.length a2.toNat [] 0 else none) else some (-1)
set_option maxHeartbeats 8000000 in
set_option maxRecDepth 100000 in
theorem impl_RuleAll.calls (k : Nat) (A0 : Option Addr) (c0 : Nat) (l0 : List Int) (A1 : Option Addr) (c1 : Nat) (l1 : List (List Int)) (a2 : Int) (r : Int) (w : World) (hr0 : Kd.C (Kd.int .i64) w A0 l0.length l0) (hc0 : l0.length ≤ c0) (hr1 : Kd.C (Kd.slice 3 (Kd.int .i64)) w A1 l1.length l1) (hc1 : l1.length ≤ c1) (h : impl_RuleAll.f k l0 l1 a2 = some r) :
  Calls Try.prog 23 #[.slice A0 l0.length c0, .slice A1 l1.length c1, .int .i64 a2] w fun e w' => e = .returned (.int .i64 r) ∧ Below w.heap.size w w' := by
 obtain ⟨t, ht, h⟩ := Option.bind_eq_some_iff.mp h
 have HC0 := Aside0.mk hr0
 have HC1 := Aside0.mk hr1
 have H0 := Aside0.mk hc0
 have H1 := Aside0.mk hc1
 have HT := Aside0.mk ht
 have HB0 := Aside0.mk (below_alloc (below_alloc (Below.refl w.heap.size w) (.cells #[.slice A0 l0.length c0] 22)) (.cells #[.slice A1 l1.length c1] 23))
 have HU0 := Aside0.mk (show ((w.alloc (.cells #[.slice A0 l0.length c0] 22)).alloc (.cells #[.slice A1 l1.length c1] 23)).heap[w.heap.size]? = some (.cells #[.slice A0 l0.length c0] 22 (0, 0)) from al_old (al_new _ _ rfl))
 have HR0 := Aside0.mk (show ((w.alloc (.cells #[.slice A0 l0.length c0] 22)).alloc (.cells #[.slice A1 l1.length c1] 23)).heap[w.heap.size + 1]? = some (.cells #[.slice A1 l1.length c1] 23 (0, 0)) from al_new _ _ (al_size _ _).symm)
 clear hr0 hr1 hc0 hc1 ht
 cases t with
 | false =>
  have hr : (-1 : Int) = r := Option.some.inj (by simpa using h)
  subst hr; clear h
  go_enter Try.func23, Try.ntmps23
  go_wp2_with (first | (go_at_call 48; (with_reducible refine (impl_ruleAsked.calls k _ _ l0 _ _ l1 _ _ ?sd1 ?sd2 ?sd3 ?sd4 HT.out).mono ?_); (case sd1 => exact Kd.C_below HC0.out HB0.out); (case sd2 => exact H0.out); (case sd3 => exact Kd.C_below HC1.out HB0.out); (case sd4 => exact H1.out); rintro e w' ⟨rfl, hd⟩; have HU := Aside0.mk (bl_keep hd.below HU0.out (blk_lt HU0.out)); have HR := Aside0.mk (bl_keep hd.below HR0.out (blk_lt HR0.out)); have e1 := cell_of_one HU.out; have e2 := cell_of_one HR.out; have HB := Aside0.mk (HB0.out.trans (hd.below.mono HB0.out.size)); clear hd))
  go_ret
  exact ⟨rfl, HB.out⟩
 | true =>
  have h : (if a2 < 0 then some (-1) else if a2 > 6 then some (-1) else if l0.length ≤ 100 then wk (TRA k l0 l1) l0.length a2.toNat [] 0 else none) = some r := by simpa using h
  by_cases g1 : a2 < 0
  ·rw [if_pos g1] at h
   obtain rfl := Option.some.inj h
   have b1 : decide (a2 < 0) = true := decide_eq_true g1
   clear h g1
   go_enter Try.func23, Try.ntmps23
   go_wp2_with (first | (go_at_call 48; (with_reducible refine (impl_ruleAsked.calls k _ _ l0 _ _ l1 _ _ ?sd1 ?sd2 ?sd3 ?sd4 HT.out).mono ?_); (case sd1 => exact Kd.C_below HC0.out HB0.out); (case sd2 => exact H0.out); (case sd3 => exact Kd.C_below HC1.out HB0.out); (case sd4 => exact H1.out); rintro e w' ⟨rfl, hd⟩; have HU := Aside0.mk (bl_keep hd.below HU0.out (blk_lt HU0.out)); have HR := Aside0.mk (bl_keep hd.below HR0.out (blk_lt HR0.out)); have e1 := cell_of_one HU.out; have e2 := cell_of_one HR.out; have HB := Aside0.mk (HB0.out.trans (hd.below.mono HB0.out.size)); clear hd))
   go_ret
   exact ⟨rfl, HB.out⟩
  ·rw [if_neg g1] at h
   have b1 : decide (a2 < 0) = false := decide_eq_false g1
   by_cases g2 : a2 > 6
   ·rw [if_pos g2] at h
    obtain rfl := Option.some.inj h
    have b2 : decide (6 < a2) = true := decide_eq_true g2
    clear h g1 g2
    go_enter Try.func23, Try.ntmps23
    go_wp2_with (first | (go_at_call 48; (with_reducible refine (impl_ruleAsked.calls k _ _ l0 _ _ l1 _ _ ?sd1 ?sd2 ?sd3 ?sd4 HT.out).mono ?_); (case sd1 => exact Kd.C_below HC0.out HB0.out); (case sd2 => exact H0.out); (case sd3 => exact Kd.C_below HC1.out HB0.out); (case sd4 => exact H1.out); rintro e w' ⟨rfl, hd⟩; have HU := Aside0.mk (bl_keep hd.below HU0.out (blk_lt HU0.out)); have HR := Aside0.mk (bl_keep hd.below HR0.out (blk_lt HR0.out)); have e1 := cell_of_one HU.out; have e2 := cell_of_one HR.out; have HB := Aside0.mk (HB0.out.trans (hd.below.mono HB0.out.size)); clear hd))
    go_ret
    exact ⟨rfl, HB.out⟩
   ·rw [if_neg g2] at h
    have b2 : decide (6 < a2) = false := decide_eq_false g2
    by_cases g3 : l0.length ≤ 100
    ·rw [if_pos g3] at h
     obtain ⟨M, rfl⟩ := Int.eq_ofNat_of_zero_le (show 0 ≤ a2 by omega)
     rw [Int.toNat_natCast] at h
     have HM := Aside0.mk (show M ≤ 100 by omega)
     have HL := Aside0.mk g3
     have HH := Aside0.mk h
     clear h g1 g2 g3
     go_enter Try.func23, Try.ntmps23
     go_wp2_with (first | (go_at_call 48; (with_reducible refine (impl_ruleAsked.calls k _ _ l0 _ _ l1 _ _ ?sd1 ?sd2 ?sd3 ?sd4 HT.out).mono ?_); (case sd1 => exact Kd.C_below HC0.out HB0.out); (case sd2 => exact H0.out); (case sd3 => exact Kd.C_below HC1.out HB0.out); (case sd4 => exact H1.out); rintro e w' ⟨rfl, hd⟩; have HU := Aside0.mk (bl_keep hd.below HU0.out (blk_lt HU0.out)); have HR := Aside0.mk (bl_keep hd.below HR0.out (blk_lt HR0.out)); have e4 := cell_of_one (al_old (o := .cells #[.int .i64 0] 3) HU.out); have e5 := cell_of_one (al_old (o := .cells #[.int .i64 0] 3) HR.out); have e1 := cell_of_one HU.out; have e2 := cell_of_one HR.out; have HB := Aside0.mk (HB0.out.trans (hd.below.mono HB0.out.size)); clear hd))
     have hb2 := HB.out
     have hn1 := blk_lt HU.out
     have hn2 := blk_lt HR.out
     have hg : ∀ w3, But w'.heap.size none (w'.alloc (.cells #[.int .i64 0] 3)) w3 → Below w.heap.size w w3 := fun w3 h3 => (below_alloc hb2 _).trans (h3.below hb2.size (by simp) (below_alloc hb2 _).size)
     refine (words_calls (ra1_told (w'.alloc (.cells #[.int .i64 0] 3)) w'.heap.size k (ub := w.heap.size) (rb := w.heap.size + 1) H0.out H1.out (fun w3 h3 => Kd.C_below HC0.out (hg w3 h3)) (fun w3 h3 => Kd.C_below HC1.out (hg w3 h3)) (al_old HU.out) (al_old HR.out) (by omega) (by omega)) HM.out HL.out (But.refl _ _ _) (cnt_new _ _) HH.out).mono ?_
     rintro e w3 ⟨rfl, hs3, h3⟩
     have e6 := cell_of_one hs3
     have HB3 := Aside0.mk (hg w3 h3)
     clear hs3 h3 hg hb2
     go_wp2
     go_ret
     exact ⟨rfl, HB3.out⟩
    ·rw [if_neg g3] at h; simp at h

/-! ### impl_SameRule: function 24 -/
mutual
def impl_SameRule.j0 : Nat → Int → Int → Bool → Option ((List (List Int)))
 | 0, _, _, _ => none
 | k + 1, x0, x1, x18 => if x18 = true then (some ([] : List (List Int))) else (impl_SameRule.l0 k x0 x1 (([] : List (List Int))) x0 0)
def impl_SameRule.l0 : Nat → Int → Int → List (List Int) → Int → Int → Option ((List (List Int)))
 | 0, _, _, _, _, _ => none
 | k + 1, x0, x1, x5, x20, x21 => if x21 < x20 then (if 0 ≤ x0 then (if (x0 : Int).toNat ≤ 35184372088832 then ((some (List.replicate (x0 : Int).toNat 0 : List Int)).bind fun y549 => (if 0 ≤ x21 then (if x21 < (y549.length : Int) then (if x5.length < 5864062014805 then (impl_SameRule.l0 k x0 x1 (x5 ++ [(y549.set (x21 : Int).toNat x1)]) x20 (wrap64 (x21 + 1))) else (none)) else (none)) else (none))) else (none)) else (none)) else (some x5)
end
def impl_SameRule.f (k : Nat) (a0 : Int) (a1 : Int) : Option ((List (List Int))) := (impl_coloursOk.f a0).bind fun t545 => (if t545 = true then (if a1 < (-1) then (impl_SameRule.j0 k a0 a1 true) else (impl_SameRule.j0 k a0 a1 (decide (a1 > 3)))) else (impl_SameRule.j0 k a0 a1 true))
set_option maxHeartbeats 8000000 in
set_option maxRecDepth 100000 in
theorem impl_SameRule.calls (k : Nat) (a0 : Int) (a1 : Int) (r : List (List Int)) (w : World) (h : impl_SameRule.f k a0 a1 = some r) :
  Calls Try.prog 24 #[.int .i64 a0, .int .i64 a1] w fun e w' => ∃ v0_ : Value, e = .returned (v0_) ∧ Kd.S (Kd.slice 3 (Kd.int .i64)) 22 w' w.heap.size (fun _ => True) v0_ r ∧ Below w.heap.size w w' := by
 have HB := Aside0.mk (Below.refl w.heap.size w)
 have H : ((impl_coloursOk.f a0).bind fun t545 => (if t545 = true then (if a1 < (-1) then (impl_SameRule.j0 k a0 a1 true) else (impl_SameRule.j0 k a0 a1 (decide (a1 > 3)))) else (impl_SameRule.j0 k a0 a1 true))) = some r := h
 clear h
 have HC3 := Aside0.mk H
 clear H
 go_enter Try.func24, Try.ntmps24
 go_upto_region 1 with (fail)
 go_cut [18] (fun v18 wc => ∃ (kq : Nat) (x18_2 : Bool), v18 = .bool x18_2 ∧ Aside0 (impl_SameRule.j0 kq a0 a1 x18_2 = some r) ∧ Aside0 (kq ≤ k) ∧ Aside0 (Below w.heap.size w wc))
 case first =>
  have H := HC3.out
  clear HC3
  replace H := Option.bind_eq_some_iff.mp H
  obtain ⟨t545, A40, H⟩ := H
  replace H : (if t545 = true then (if a1 < (-1) then (impl_SameRule.j0 k a0 a1 true) else (impl_SameRule.j0 k a0 a1 (decide (a1 > 3)))) else (impl_SameRule.j0 k a0 a1 true)) = some r := H
  have A4 := Aside0.mk A40
  clear A40
  by_cases c5 : t545 = true
  ·subst c5
   have H1 : (if a1 < (-1) then (impl_SameRule.j0 k a0 a1 true) else (impl_SameRule.j0 k a0 a1 (decide (a1 > 3)))) = some r := by rw [if_pos rfl] at H; exact H
   clear H
   have H := H1
   clear H1
   by_cases c6 : a1 < (-1)
   ·rw [if_pos c6] at H
    have c6b0 : decide (a1 < (-1)) = true := decide_eq_true c6
    clear c6
    (first | rw [c6b0] | (simp only [i64_w, i32_w]; rw [c6b0]) | skip)
    have H' := Aside0.mk H
    clear H
    go_wp2_with (first | ((with_reducible refine gate_callee (f := 62) rfl ?_); refine goesL_ (some 9) rfl rfl Try.func62 (by kernel_rfl) rfl #[.int .i64 a0] rfl (by (try simp only [List.map_toArray, List.map_cons, List.map_nil]); first | done | rfl) ?_; (with_reducible refine (impl_coloursOk.calls a0 true _ A4.out).mono ?_); rintro e w' ⟨rfl, ⟨nd, rfl⟩⟩; refine ⟨_, rfl, ?_⟩))
    go_meet
    case rel => exact ⟨_, (true), (by first | rfl | (simp; done) | (simp [*]; done)), H', ⟨by first | omega | exact Nat.le_refl _⟩, ⟨by repeat first | with_reducible exact HB.out | apply below_alloc | apply pw_below_drewN | apply below_drew1⟩⟩
   ·rw [if_neg c6] at H
    have c6b0 : decide (a1 < (-1)) = false := decide_eq_false c6
    clear c6
    (first | rw [c6b0] | (simp only [i64_w, i32_w]; rw [c6b0]) | skip)
    have H' := Aside0.mk H
    clear H
    go_wp2_with (first | ((with_reducible refine gate_callee (f := 62) rfl ?_); refine goesL_ (some 9) rfl rfl Try.func62 (by kernel_rfl) rfl #[.int .i64 a0] rfl (by (try simp only [List.map_toArray, List.map_cons, List.map_nil]); first | done | rfl) ?_; (with_reducible refine (impl_coloursOk.calls a0 true _ A4.out).mono ?_); rintro e w' ⟨rfl, ⟨nd, rfl⟩⟩; refine ⟨_, rfl, ?_⟩))
    go_meet
    case rel => exact ⟨_, (decide (a1 > 3)), (by first | rfl | (simp; done) | (simp [*]; done)), H', ⟨by first | omega | exact Nat.le_refl _⟩, ⟨by repeat first | with_reducible exact HB.out | apply below_alloc | apply pw_below_drewN | apply below_drew1⟩⟩
  ·replace c5 := Bool.eq_false_iff.mpr c5
   subst c5
   have H1 : (impl_SameRule.j0 k a0 a1 true) = some r := by rw [if_neg (show ¬ (false = true) by decide)] at H; exact H
   clear H
   have H := H1
   clear H1
   have H' := Aside0.mk H
   clear H
   go_wp2_with (first | ((with_reducible refine gate_callee (f := 62) rfl ?_); refine goesL_ (some 9) rfl rfl Try.func62 (by kernel_rfl) rfl #[.int .i64 a0] rfl (by (try simp only [List.map_toArray, List.map_cons, List.map_nil]); first | done | rfl) ?_; (with_reducible refine (impl_coloursOk.calls a0 false _ A4.out).mono ?_); rintro e w' ⟨rfl, ⟨nd, rfl⟩⟩; refine ⟨_, rfl, ?_⟩))
   go_meet
   case rel => exact ⟨_, (true), (by first | rfl | (simp; done) | (simp [*]; done)), H', ⟨by first | omega | exact Nat.le_refl _⟩, ⟨by repeat first | with_reducible exact HB.out | apply below_alloc | apply pw_below_drewN | apply below_drew1⟩⟩
 case rest =>
  clear HC3
  try clear c2
  try clear p2
  try clear c5
  try clear c6
  try clear c6b0
  obtain ⟨kq, x18_2, rfl, HA, HJ2, HB⟩ := hcut
  cases kq with
  | zero => exact absurd HA.out (by simp [impl_SameRule.j0])
  | succ kj2 =>
   have H := HA.out
   clear HA
   simp only [impl_SameRule.j0] at H
   by_cases c7 : x18_2 = true
   ·subst c7
    have H1 : (some ([] : List (List Int))) = some r := by rw [if_pos rfl] at H; exact H
    clear H
    have H := H1
    clear H1
    obtain rfl := Option.some.inj H
    go_wp2
    go_ret
    exact ⟨_, by first | rfl | (simp [errW_none, errW_some] <;> rfl) | (simp [*, errW_none, errW_some] <;> rfl), by first | exact Kd.S_nil _ _ _ _ _ | exact Kd.N_nil _ _ _ _ _ | exact Kd.V_nil _ _ _ _ _ | exact Kd.Q_nil _ _ _ _ _ | exact Kd.R_nil _ _ _ _ _, by repeat first | with_reducible exact HB.out | apply below_alloc | apply pw_below_drewN | apply below_drew1⟩
   ·replace c7 := Bool.eq_false_iff.mpr c7
    subst c7
    have H1 : (impl_SameRule.l0 kj2 a0 a1 (([] : List (List Int))) a0 0) = some r := by rw [if_neg (show ¬ (false = true) by decide)] at H; exact H
    clear H
    have H := H1
    clear H1
    obtain ⟨y546, hy546⟩ : ∃ y_ : List (List Int), y_ = (([] : List (List Int))) := ⟨_, rfl⟩
    replace H : (impl_SameRule.l0 kj2 a0 a1 y546 a0 0) = some r := by first | (rw [hy546]; with_reducible exact H) | (have H2_ := (Option.bind_some _ _).symm.trans H; rw [hy546]; with_reducible exact H2_) | (have H2_ := (Option.bind_some _ _).symm.trans H; with_reducible exact H2_) | with_reducible exact H | (rw [hy546]; exact H) | exact H
    have Ny546 := Aside0.mk hy546
    clear hy546
    have H' := Aside0.mk H
    clear H
    go_wp2_with (first | ((with_reducible refine gate_dst (N := 19) rfl ?_); refine Kd.S_lit (Kd.slice 3 (Kd.int .i64)) _ 22 ?hg (N := 19) ?hd (xs := ([] : List (List Int))) (inner := []) (ok := fun _ => True) (okp := fun _ => True) ?hr ?hp (fun _ hk => hk) trivial (Below.refl _ _) (Nat.le_refl _) (by simp) ?_; (case hd => rfl); (case hg => rfl); (case hr => first | (go_simp; done) | (go_simp; rfl)); (case hp => exact (Reps.none _ _)); intro v547 w8 ho9 hb hg_ hnew_; clear hg_ hnew_; (first | rw [← Ny546.out] at ho9 | (simp only [Int.reduceToNat] at ho9; rw [← Ny546.out] at ho9)); have n0_ := Aside0.mk (Kd.S_lower ho9 (below_size (by repeat first | with_reducible exact HB.out | apply below_alloc | apply pw_below_drewN | apply below_drew1))); have n1_ := Aside0.mk (below_step (by repeat first | with_reducible exact HB.out | apply below_alloc | apply pw_below_drewN | apply below_drew1) hb); clear HB; have HO548 := n0_; have HB := n1_; clear n0_ n1_; clear hb ho9))
    go_loopg [5, 21] kj2 (fun kq v5 v21 w' => ∃ (x5_2 : List (List Int)) (x21_2 : Int), v21 = .int .i64 x21_2 ∧ Aside0 (impl_SameRule.l0 kq a0 a1 x5_2 a0 x21_2 = some r) ∧ Aside0 (kq ≤ kj2) ∧ Aside0 (Kd.S (Kd.slice 3 (Kd.int .i64)) 22 w' w.heap.size (fun _ => True) v5 x5_2) ∧ Aside0 (Below w.heap.size w w'))
    case atStart => exact ⟨(y546), (0), (by first | rfl | (simp; done) | (simp [*]; done)), H', ⟨Nat.le_refl _⟩, ⟨by (with_reducible repeat (first | apply Kd.S_alloc | apply Kd.S_drewN | apply Kd.S_drew)); exact HO548.out⟩, ⟨by repeat first | with_reducible exact HB.out | apply below_alloc | apply pw_below_drewN | apply below_drew1⟩⟩
    case round =>
     clear H'
     try clear c2
     try clear p2
     try clear c5
     try clear c6
     try clear c6b0
     try clear c7
     try clear p2
     obtain ⟨x5_2, x21_2, rfl, HA, HK2, HO_5, HB⟩ := hrel
     cases gk with
     | zero => exact absurd HA.out (by simp [impl_SameRule.l0])
     | succ k2 =>
      have H := HA.out
      clear HA
      simp only [impl_SameRule.l0] at H
      by_cases c10 : x21_2 < a0
      ·rw [if_pos c10] at H
       have c10b0 : decide (x21_2 < a0) = true := decide_eq_true c10
       clear c10
       by_cases c11 : 0 ≤ a0
       ·rw [if_pos c11] at H
        have c11b0 := eq_true c11
        have c11b1 : decide (0 ≤ a0) = true := decide_eq_true c11
        clear c11
        by_cases c12 : (a0 : Int).toNat ≤ 35184372088832
        ·rw [if_pos c12] at H
         have c12b0 := eq_true c12
         have c12b1 : decide ((a0 : Int).toNat ≤ 35184372088832) = true := decide_eq_true c12
         clear c12
         obtain ⟨y549, hy549⟩ : ∃ y_ : List Int, y_ = (List.replicate (a0 : Int).toNat 0) := ⟨_, rfl⟩
         replace H : (if 0 ≤ x21_2 then (if x21_2 < (y549.length : Int) then (if x5_2.length < 5864062014805 then (impl_SameRule.l0 k2 a0 a1 (x5_2 ++ [(y549.set (x21_2 : Int).toNat a1)]) a0 (wrap64 (x21_2 + 1))) else (none)) else (none)) else (none)) = some r := by first | (rw [hy549]; with_reducible exact H) | (have H2_ := (Option.bind_some _ _).symm.trans H; rw [hy549]; with_reducible exact H2_) | (have H2_ := (Option.bind_some _ _).symm.trans H; with_reducible exact H2_) | with_reducible exact H | (rw [hy549]; exact H) | exact H
         have Ny549 := Aside0.mk hy549
         clear hy549
         by_cases c13 : 0 ≤ x21_2
         ·rw [if_pos c13] at H
          have c13b0 : decide (0 ≤ x21_2) = true := decide_eq_true c13
          clear c13
          by_cases c14 : x21_2 < (y549.length : Int)
          ·rw [if_pos c14] at H
           have c14b0 : decide (x21_2 < (y549.length : Int)) = true := decide_eq_true c14
           clear c14
           obtain ⟨y552, hy552⟩ : ∃ y_ : List Int, y_ = (y549.set (x21_2 : Int).toNat a1) := ⟨_, rfl⟩
           replace H : (if x5_2.length < 5864062014805 then (impl_SameRule.l0 k2 a0 a1 (x5_2 ++ [y552]) a0 (wrap64 (x21_2 + 1))) else (none)) = some r := by first | (rw [hy552]; with_reducible exact H) | (have H2_ := (Option.bind_some _ _).symm.trans H; rw [hy552]; with_reducible exact H2_) | (have H2_ := (Option.bind_some _ _).symm.trans H; with_reducible exact H2_) | with_reducible exact H | (rw [hy552]; exact H) | exact H
           have Ny552 := Aside0.mk hy552
           have hyly552 := Aside0.mk (show y552.length = y549.length by rw [hy552]; exact List.length_set)
           clear hy552
           by_cases c16 : x5_2.length < 5864062014805
           ·rw [if_pos c16] at H
            have LMc16 := Aside0.mk c16
            clear c16
            obtain ⟨y553, hy553⟩ : ∃ y_ : List (List Int), y_ = (x5_2 ++ [y552]) := ⟨_, rfl⟩
            replace H : (impl_SameRule.l0 k2 a0 a1 y553 a0 (wrap64 (x21_2 + 1))) = some r := by first | (rw [hy553]; with_reducible exact H) | (have H2_ := (Option.bind_some _ _).symm.trans H; rw [hy553]; with_reducible exact H2_) | (have H2_ := (Option.bind_some _ _).symm.trans H; with_reducible exact H2_) | with_reducible exact H | (rw [hy553]; exact H) | exact H
            have Ny553 := Aside0.mk hy553
            clear hy553
            have H' := Aside0.mk H
            clear H
            go_wp2_with (first | ((with_reducible refine gate_dst (N := 25) rfl ?_); refine Kd.R_make (Kd.int .i64) _ 3 rfl (N := 25) rfl 22 _ _ rfl a0 rfl rfl Try.underlying22 (.int .i64 0) 8 info3 rfl (by decide) (by omega) 0 (ok := fun _ => True) (okp := fun _ => True) rfl (fun _ hk => hk) trivial (of_decide_eq_true (by assumption)) (Nat.le_trans (Nat.mul_le_mul_right _ (of_decide_eq_true (by assumption) : a0.toNat ≤ 35184372088832)) (by omega)) (Below.refl _ _) (Nat.le_refl _) ?_; intro v550 w17 ho18 hb hg_ hnew_; clear hg_ hnew_; (first | rw [← Ny549.out] at ho18 | (simp only [Int.reduceToNat] at ho18; rw [← Ny549.out] at ho18)); have n0_ := Aside0.mk (Kd.S_elder' (by (with_reducible repeat (first | apply Kd.S_alloc | apply Kd.S_drewN | apply Kd.S_drew)); exact HO_5.out) (Kd.R_base ho18) hb); have n1_ := Aside0.mk (Kd.R_lower ho18 (below_size (by repeat first | with_reducible exact HB.out | apply below_alloc | apply pw_below_drewN | apply below_drew1))); have n2_ := Aside0.mk (below_step (by repeat first | with_reducible exact HB.out | apply below_alloc | apply pw_below_drewN | apply below_drew1) hb); clear HO_5; clear HB; have HO_5 := n0_; have HO551 := n1_; have HB := n2_; clear n0_ n1_ n2_; clear hb ho18; have p15 : 0 ≤ (x21_2 : Int) := of_decide_eq_true (by assumption); have q15 : (x21_2 : Int) < ((y549.length : Int) : Int) := of_decide_eq_true (by assumption); obtain ⟨go15, co15, eo15, gb15, gl15, cl15, HG15⟩ := Kd.R_form HO551.out (by omega); (first | cases eo15 | (injection eo15 with ea_ en_ ec_; (first | subst ea_ | (injection ea_ with ea_; subst ea_)); subst ec_; clear en_)); have GB15 := Aside0.mk gb15; have GG15 := Aside0.mk HG15; clear gb15 gl15 HG15; obtain ⟨hx15_0, hf15_0⟩ := Kd.R_celln 0 HO551.out (x21_2 : Int) p15 q15; replace p15 := eq_true p15; replace q15 := eq_true q15; obtain ⟨hy19_, hz19_⟩ := Kd.R_celln 0 HO551.out (x21_2 : Int) (of_decide_eq_true (by assumption)) (of_decide_eq_true (by assumption)); have HP19 := Kd.R_putg HO551.out (x21_2 : Int) a1) | ((with_reducible refine gate_store (t := 3) (p := 29) rfl ?_); refine store_event (t := 3) (p := 29) (v := ?vo_w20) (w1 := (w17.setCell ⟨go15, (x21_2 : Int).toNat, none⟩ (.int .i64 a1))) ?hg ?ho ?hn ?hr ?_; (case ho => rfl); (case hg => rfl); (case hn => rfl); (case hr => first | (go_simp; done) | (go_simp; rfl)); intro w20 hw; have hg : w17.grownBy w20 (some go15) := (by rw [hw]; exact HP19.2); have hp_ : Kd.R (Kd.int .i64) 3 w20 w.heap.size (fun _ => True) (.slice (some ⟨go15, 0, none⟩) y549.length co15) y552 := (by rw [hw, Ny552.out]; exact HP19.1); clear HP19; have n0_ := Aside0.mk (Kd.S_after (v := (.slice (some ⟨go15, 0, none⟩) y549.length co15)) (v1 := (.slice (some ⟨go15, 0, none⟩) y549.length co15)) (ok := (fun _ => True)) (by (with_reducible repeat (first | apply Kd.S_alloc | apply Kd.S_drewN | apply Kd.S_drew)); exact HO_5.out) hg (.inl rfl)); have n1_ := Aside0.mk (hp_); have n2_ := Aside0.mk ((by rw [hw]; exact below_set (HB.out) GB15.out : Below w.heap.size w w20)); clear HO_5; clear HO551; clear HB; have HO_5 := n0_; have HO551 := n1_; have HB := n2_; clear n0_ n1_ n2_; clear hg hw hp_) | ((with_reducible refine gate_builtin (b := .append) (xs := #[.tmp 30, .tmp 32]) rfl ?_); at_builtin; refine Kd.S_append (Kd.slice 3 (Kd.int .i64)) (w0 := w) w.heap.size rfl (.tmp 30) (.tmp 32) 23 22 (.slice none 0 0) 24 rfl Try.underlying23 info22 rfl (by decide) (by omega) u5 x5_2 y552 [.slice (some ⟨go15, 0, none⟩) y549.length co15] (fun _ => True) (fun k_ => some k_ = (.slice (some ⟨go15, 0, none⟩) y549.length co15 : Value).ownBlock) rfl rfl ?aP (fun k_ hk_ => ((Kd.R_mono (ok' := fun k_ => ((fun _ => True)) k_ ∧ some k_ ≠ (u5 : Value).ownBlock) (Kd.R_apart' (HO551.out) (Kd.S_typed HO_5.out) (by decide)) (fun k_ hk => ⟨trivial, hk.2⟩))).1 k_ hk_.symm) ?aF ?aO ?aB ?aS ?aL ?_; (case aP => exact Kd.M_row (Kd.R_mono (Kd.R_tight rfl (Kd.R_mono (ok' := fun k_ => ((fun _ => True)) k_ ∧ some k_ ≠ (u5 : Value).ownBlock) (Kd.R_apart' (HO551.out) (Kd.S_typed HO_5.out) (by decide)) (fun k_ hk => ⟨trivial, hk.2⟩))) (fun _ h_ => h_))); (case aB => exact (by repeat first | with_reducible exact HB.out | apply below_alloc | apply pw_below_drewN | apply below_drew1)); (case aF => exact (fun _ _ => trivial)); (case aO => exact (by (with_reducible repeat (first | apply Kd.S_alloc | apply Kd.S_drewN | apply Kd.S_drew)); exact Kd.S_mono HO_5.out (fun k_ hk => ⟨trivial, fun e_ => hk.2 e_⟩))); (case aS => exact (below_size (by repeat first | with_reducible exact HB.out | apply below_alloc | apply pw_below_drewN | apply below_drew1))); (case aL => have := LMc16.out; omega); intro v554 w21 ho hb hg hat; rw [← Ny553.out] at ho; have n0_ := Aside0.mk (hb); have n1_ := Aside0.mk (ho); clear HB; clear HO_5; clear HO551; have HB := n0_; have HO555 := n1_; clear n0_ n1_; clear ho hb hg hat))
            go_roundg k2
            case measure => have := HJ2.out; have := HK2.out; omega
            case rel => exact ⟨(y553), (wrap64 (x21_2 + 1)), (by first | rfl | (simp; done) | (simp [*]; done)), H', ⟨by have := HJ2.out; have := HK2.out; omega⟩, ⟨by (with_reducible repeat (first | apply Kd.S_alloc | apply Kd.S_drewN | apply Kd.S_drew)); exact HO555.out⟩, ⟨by repeat first | with_reducible exact HB.out | apply below_alloc | apply pw_below_drewN | apply below_drew1⟩⟩
           ·rw [if_neg c16] at H
            exact absurd H (by simp)
          ·rw [if_neg c14] at H
           exact absurd H (by simp)
         ·rw [if_neg c13] at H
          exact absurd H (by simp)
        ·rw [if_neg c12] at H
         exact absurd H (by simp)
       ·rw [if_neg c11] at H
        exact absurd H (by simp)
      ·rw [if_neg c10] at H
       have c10b0 : decide (x21_2 < a0) = false := decide_eq_false c10
       clear c10
       obtain rfl := Option.some.inj H
       go_wp2
       go_ret
       exact ⟨_, by first | rfl | (simp [errW_none, errW_some] <;> rfl) | (simp [*, errW_none, errW_some] <;> rfl), by (with_reducible repeat (first | apply Kd.S_alloc | apply Kd.S_drewN | apply Kd.S_drew)); exact HO_5.out, by repeat first | with_reducible exact HB.out | apply below_alloc | apply pw_below_drewN | apply below_drew1⟩

end Go.Proofs.Ytojaioejdfibhaa.PFnTermWays
