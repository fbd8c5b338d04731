/- Walks of the functions that the law FnTermWays reaches, written by a program of this session. No condition but those that each states. -/
import Derived.Test.YtojaioejdfibhaaOFnTermWaysx0
import Derived.Test.YtojaioejdfibhaaOFnTermWaysx2
import Derived.Test.YtojaioejdfibhaaOFnTermWaysx3
import Derived.Test.YtojaioejdfibhaaOFnTermWaysx8
import Derived.Test.YtojaioejdfibhaaOFnTermWaysx9
namespace Go.Proofs.Ytojaioejdfibhaa.PFnTermWays
open Go.RowKit Go.Proofs.YtojaioejdfibhaaW.PrintWords Go.Proofs.YtojaioejdfibhaaW.PrintLast Go.Proofs.YtojaioejdfibhaaW.PrintMore
attribute [local go_sem] max2_int min2_int max_two min_two max_three min_three max_four min_four   -- for this text's walks alone
set_option linter.unusedVariables false
set_option linter.unusedSimpArgs false

/-- Nothing but the block nb, and the block ob, has turned. -/
structure But (nb : Nat) (ob : Option Nat) (w w' : World) : Prop where
 os : w'.os = w.os
 tape : w'.tape = w.tape
 output : w'.output = w.output
 size : w.heap.size ≤ w'.heap.size
 block : ∀ k, k < w.heap.size → k ≠ nb → some k ≠ ob → w'.heap[k]? = w.heap[k]?
theorem But.refl (nb : Nat) (ob : Option Nat) (w : World) : But nb ob w w := ⟨rfl, rfl, rfl, Nat.le_refl _, fun _ _ _ _ => rfl⟩
theorem But.trans {nb : Nat} {ob : Option Nat} {a b c : World} (h : But nb ob a b) (k : But nb ob b c) : But nb ob a c :=
 ⟨k.os.trans h.os, k.tape.trans h.tape, k.output.trans h.output, Nat.le_trans h.size k.size, fun i hi h1 h2 => (k.block i (Nat.lt_of_lt_of_le hi h.size) h1 h2).trans (h.block i hi h1 h2)⟩
theorem But.wide {nb : Nat} {ob : Option Nat} {w w' : World} (h : But nb none w w') : But nb ob w w' := ⟨h.os, h.tape, h.output, h.size, fun k hk h1 _ => h.block k hk h1 (by simp)⟩
theorem But.of_below {nb : Nat} {ob : Option Nat} {w w' : World} (h : Below w.heap.size w w') : But nb ob w w' := ⟨h.os, h.tape, h.output, h.size, fun k hk _ _ => h.block k hk⟩
theorem But.below {nb : Nat} {ob : Option Nat} {w w' : World} (h : But nb ob w w') {B : Nat} (h1 : B ≤ nb) (h2 : ∀ k, ob = some k → B ≤ k) (h3 : B ≤ w.heap.size) : Below B w w' :=
 ⟨h.os, h.tape, h.output, h.size, fun k hk => h.block k (Nat.lt_of_lt_of_le hk h3) (by omega) (fun e => by have := h2 k e.symm; omega)⟩
theorem But.narrow {nb : Nat} {ob : Option Nat} {w w1 w' : World} (hw : But nb none w w1) (h : But nb ob w1 w') (h2 : ∀ k, ob = some k → w.heap.size ≤ k) : But nb none w w' :=
 ⟨h.os.trans hw.os, h.tape.trans hw.tape, h.output.trans hw.output, Nat.le_trans hw.size h.size, fun k hk h1 _ => (h.block k (Nat.lt_of_lt_of_le hk hw.size) h1 (fun e => by have := h2 k e.symm; omega)).trans (hw.block k hk h1 (by simp))⟩
theorem But.drewN {nb : Nat} {ob : Option Nat} {w w' : World} (h : But nb ob w w') (n : Nat) : But nb ob w (w'.drewN n) := h.trans (But.of_below (pw_below_drewN (Below.refl _ _) n))
theorem But.set_nb {nb : Nat} {ob : Option Nat} {w w' : World} (h : But nb ob w w') (j : Nat) (v : Value) : But nb ob w (w'.setCell ⟨nb, j, none⟩ v) :=
 h.trans ⟨rfl, rfl, rfl, by simp [World.setCell], fun k _ h1 _ => Below.heap_setCell _ _ _ _ h1⟩
theorem But.set_ob {nb o : Nat} {w w' : World} (h : But nb (some o) w w') (j : Nat) (v : Value) : But nb (some o) w (w'.setCell ⟨o, j, none⟩ v) :=
 h.trans ⟨rfl, rfl, rfl, by simp [World.setCell], fun k _ _ h2 => Below.heap_setCell _ _ _ _ (fun e => h2 (by rw [e]))⟩
/-- A block other than these holds what it held. -/
theorem But.keep {nb : Nat} {ob : Option Nat} {w w' : World} (h : But nb ob w w') {g : Nat} {o : Obj} (hg : w.heap[g]? = some o) (h1 : g ≠ nb) (h2 : some g ≠ ob) : w'.heap[g]? = some o := (h.block g (blk_lt hg) h1 h2).trans hg

/-- The counter: a block of one number. -/
def Cnt (nb : Nat) (s : Int) (w : World) : Prop := w.heap[nb]? = some (.cells #[.int .i64 s] 3 (0, 0))

/-- The told function (ft, with what it captured): at each word it brings the counter from s to T word s; of the elder world W nothing has turned. -/
structure Told (W : World) (nb ft : Nat) (cap : Array Value) (T : List Int → Int → Option Int) : Prop where
 ent : ∀ (args : Array Value) (w : World), (callFunc ft args).run Try.prog w = .ok (.enter ft args) w
 call : ∀ (A : Option Addr) (c : Nat) (u : List Int) (s r : Int) (w : World), But nb none W w → Kd.C (Kd.int .i64) w A u.length u → u.length ≤ c → Cnt nb s w → T u s = some r →
  Calls Try.prog ft (#[.slice A u.length c] ++ cap) w fun e w' => e = .returned (.tuple #[]) ∧ Cnt nb r w' ∧ But nb none w w'

/-- The rounds over the colours: n to come, the next one is c. -/
def wl (g : Int → Int → Option Int) : Nat → Int → Int → Option Int
 | 0, _, s => some s
 | n + 1, c, s => (g c s).bind fun s1 => wl g n (c + 1) s1
/-- All words that begin with pre and have d draws more, over cs colours. -/
def wk (T : List Int → Int → Option Int) (cs : Nat) : Nat → List Int → Int → Option Int
 | 0, pre, s => T pre s
 | d + 1, pre, s => wl (fun c s => wk T cs d (pre ++ [c]) s) cs 0 s

/-- The captured variables of 'try'. -/
structure Env (cs M mb tb wb cb yb ft : Nat) (cap : Array Value) (wv : Value) (nb : Nat) (w : World) : Prop where
 c : w.heap[cb]? = some (.cells #[.int .i64 (cs : Int)] 3 (0, 0))
 m : w.heap[mb]? = some (.cells #[.int .i64 (M : Int)] 3 (0, 0))
 t : w.heap[tb]? = some (.cells #[.func (.func ft) #[] cap] 70 (0, 0))
 v : w.heap[wb]? = some (.cells #[wv] 22 (0, 0))
 y : w.heap[yb]? = some (.cells #[.func (.func 81) #[] #[.pointer (some ⟨mb, 0, none⟩), .pointer (some ⟨tb, 0, none⟩), .pointer (some ⟨wb, 0, none⟩), .pointer (some ⟨cb, 0, none⟩), .pointer (some ⟨yb, 0, none⟩)]] 85 (0, 0))
 nc : cb ≠ nb ∧ some cb ≠ wv.ownBlock
 nm : mb ≠ nb ∧ some mb ≠ wv.ownBlock
 nt : tb ≠ nb ∧ some tb ≠ wv.ownBlock
 nv : wb ≠ nb ∧ some wb ≠ wv.ownBlock
 ny : yb ≠ nb ∧ some yb ≠ wv.ownBlock
theorem Env.keep {cs M mb tb wb cb yb ft nb : Nat} {cap : Array Value} {wv : Value} {w w' : World} (h : Env cs M mb tb wb cb yb ft cap wv nb w) (b : But nb wv.ownBlock w w') : Env cs M mb tb wb cb yb ft cap wv nb w' :=
 ⟨b.keep h.c h.nc.1 h.nc.2, b.keep h.m h.nm.1 h.nm.2, b.keep h.t h.nt.1 h.nt.2, b.keep h.v h.nv.1 h.nv.2, b.keep h.y h.ny.1 h.ny.2, h.nc, h.nm, h.nt, h.nv, h.ny⟩

/-- What a call of 'try' leaves. -/
def After (nb a M : Nat) (wv : Value) (base : Nat) (L : List Int) (r : Int) (w : World) (e : Ending) (w' : World) : Prop :=
 e = .returned (.tuple #[]) ∧ Cnt nb r w' ∧ But nb wv.ownBlock w w' ∧ ∃ L' : List Int, L'.length = M ∧ L'.take a = L.take a ∧ Kd.R (Kd.int .i64) 3 w' base (fun k => k ≠ nb) wv L'
theorem al_new (w : World) (o : Obj) {k : Nat} (hk : k = w.heap.size) : (w.alloc o).heap[k]? = some o := by subst hk; show (w.heap.push o)[_]? = _; simp
theorem al_old {w : World} {o x : Obj} {k : Nat} (h : w.heap[k]? = some x) : (w.alloc o).heap[k]? = some x := (Below.heap_alloc w o k (blk_lt h)).trans h
theorem al_size (w : World) (o : Obj) : (w.alloc o).heap.size = w.heap.size + 1 := by simp
theorem bl_keep {B k : Nat} {w w' : World} {x : Obj} (hb : Below B w w') (h : w.heap[k]? = some x) (hk : k < B) : w'.heap[k]? = some x := (hb.block k hk).trans h
theorem cnt_set {nb : Nat} {s v : Int} {w : World} (h : Cnt nb s w) : Cnt nb v (w.setCell ⟨nb, 0, none⟩ (.int .i64 v)) := one_setCell h
theorem cell_far {w : World} {g b : Nat} {u v : Value} (h : w.cell? ⟨g, 0, none⟩ = some v) (hne : g ≠ b) : (w.setCell ⟨b, 0, none⟩ u).cell? ⟨g, 0, none⟩ = some v := (World.cell?_of_block (w := w) (Below.heap_setCell w ⟨b, 0, none⟩ u g hne)).trans h
theorem cnt_new (w : World) (v : Int) : Cnt w.heap.size v (w.alloc (.cells #[.int .i64 v] 3)) := al_new _ _ rfl

set_option maxHeartbeats 8000000 in
set_option maxRecDepth 100000 in
theorem try_calls {W : World} {nb ft : Nat} {cap : Array Value} {T : List Int → Int → Option Int} (hT : Told W nb ft cap T) {cs M mb tb wb cb yb : Nat} {wv : Value} :
  ∀ (d a : Nat) (L : List Int) (s r : Int) (w : World), a + d = M → L.length = M → M ≤ 100 → cs ≤ 100 → Env cs M mb tb wb cb yb ft cap wv nb w → Kd.R (Kd.int .i64) 3 w W.heap.size (fun k => k ≠ nb) wv L → But nb none W w → Cnt nb s w →
   wk T cs d (L.take a) s = some r →
   Calls Try.prog 81 #[.int .i64 (a : Int), .pointer (some ⟨mb, 0, none⟩), .pointer (some ⟨tb, 0, none⟩), .pointer (some ⟨wb, 0, none⟩), .pointer (some ⟨cb, 0, none⟩), .pointer (some ⟨yb, 0, none⟩)] w (After nb a M wv W.heap.size L r w) := by
 intro d
 induction d with
 | zero =>
  intro a L s r w had hL hM hcs hE hR hB hs h
  obtain rfl : a = M := by omega
  obtain ⟨A, c, rfl, hc, hC⟩ := Kd.R_reads hR
  have HE := Aside0.mk hE
  have HT := Aside0.mk (hT.call A c L s r w hB hC hc hs (by rw [wk] at h; rw [List.take_of_length_le (by omega)] at h; exact h))
  rw [hL] at HT
  have e1 := cell_of_one hE.m
  have e2 := cell_of_one hE.t
  rw [hL] at hE
  have e3 := cell_of_one hE.v
  have hent := hT.ent
  clear hE hC hs h hT hB
  have HR := Aside0.mk hR
  clear hR
  have HL := Aside0.mk hL
  clear hL
  go_enter Try.func81, Try.ntmps81
  go_wp2_with (first | ((with_reducible refine HT.out.mono ?_); rintro e w' ⟨rfl, hs', hb'⟩))
  go_end0
  exact ⟨rfl, hs', hb'.wide, L, HL.out, rfl, Kd.R_step HR.out (fun k hk hl => hb'.block k hl hk (by simp))⟩
 | succ d ih =>
  intro a L s r w had hL hM hcs hE hR hB hs h
  obtain ⟨g, cp, rfl, hg1, hg2, _, hg3⟩ := Kd.R_form hR (by omega)
  have hgn : g ≠ nb := hR.1 g rfl
  have e1 := cell_of_one hE.m
  have e4 := cell_of_one hE.c
  have c1 : ((a : Int) == (M : Int)) = false := beq_eq_false_iff_ne.mpr (by omega)
  have HE := Aside0.mk hE
  have HR := Aside0.mk hR
  have HB := Aside0.mk hB
  have HS := Aside0.mk hs
  have HH := Aside0.mk (show wl (fun c s => wk T cs d (L.take a ++ [c]) s) cs 0 s = some r from h)
  have HT := Aside0.mk hT
  have HL := Aside0.mk hL
  have HG := Aside0.mk hg3
  clear hE hR hB hs h hT hL hg3
  go_enter Try.func81, Try.ntmps81
  go_wp2
  go_loopg [15] cs (fun kq v15 w' => ∃ (c s1 : Int) (L1 : List Int), v15 = .int .i64 c ∧ Aside0 (c + kq = cs ∧ 0 ≤ c) ∧ Aside0 (wl (fun c s => wk T cs d (L.take a ++ [c]) s) kq c s1 = some r) ∧ Aside0 (Cnt nb s1 w') ∧ Aside0 (But nb (some g) w w') ∧ Aside0 (L1.length = M ∧ L1.take a = L.take a) ∧ Aside0 (Kd.R (Kd.int .i64) 3 w' W.heap.size (fun k => k ≠ nb) (.slice (some ⟨g, 0, none⟩) L.length cp) L1))
  case atStart => exact ⟨0, s, L, rfl, ⟨by omega, by omega⟩, HH, HS, ⟨But.refl _ _ _⟩, ⟨HL.out, rfl⟩, HR⟩
  case round =>
   obtain ⟨c, s1, L1, rfl, HC, HA, HS1, HB1, HL1, HR1⟩ := hrel
   have hE1 := HE.out.keep HB1.out
   cases gk with
   | zero =>
    have c2 : decide (c < (cs : Int)) = false := decide_eq_false (by have := HC.out; omega)
    clear hE1 c1 e1 e4
    have hA := Option.some.inj HA.out
    go_wp2
    go_end0
    exact ⟨rfl, by rw [← hA]; exact HS1.out, HB1.out, L1, HL1.out.1, HL1.out.2, HR1.out⟩
   | succ n =>
    have hA := HA.out
    simp only [wl] at hA
    obtain ⟨s2, hA2, hA3⟩ := Option.bind_eq_some_iff.mp hA
    have c2 : decide (c < (cs : Int)) = true := decide_eq_true (by have := HC.out; omega)
    have hLs : ((L1.set a c).take (a + 1)) = L.take a ++ [c] := by
     rw [← HL1.out.2, List.take_add_one, List.take_set_of_le (by omega), List.getElem?_set_self (by have := HL1.out.1; omega)]
     rfl
    have hw : But nb (some g) w (wr.setCell ⟨g, a, none⟩ (.int .i64 c)) := HB1.out.set_ob a _
    have hR2 := Kd.R_putg HR1.out (a : Int) c
    have HI := ih (a + 1) (L1.set a c) s1 s2 (wr.setCell ⟨g, a, none⟩ (.int .i64 c)) (by omega) (by rw [List.length_set]; exact HL1.out.1) hM hcs (HE.out.keep hw) hR2.1 (HB.out.narrow hw (fun k hk => by obtain rfl := Option.some.inj hk; exact hg1)) (by show (World.setCell _ _ _).heap[nb]? = _; rw [Below.heap_setCell _ _ _ _ (fun h => hgn h.symm)]; exact HS1.out) (by rw [hLs]; exact hA2)
    rw [show ((a + 1 : Nat) : Int) = (a : Int) + 1 from rfl] at HI
    have HI := Aside0.mk HI
    have b1 : 0 ≤ c := HC.out.2
    have b2 : c ≤ 100 := by have := HC.out; omega
    have e3 := cell_of_one hE1.v
    have e5 := cell_of_one (HE.out.keep hw).y
    have e6 := Kd.R_celln 0 HR1.out (a : Int) (by omega) (by have := HL.out; omega)
    obtain ⟨e7, e8⟩ := e6
    rw [Int.toNat_natCast] at e7 e8
    have qa : a < M := by omega
    rw [HL.out] at e3
    have HA3 := Aside0.mk hA3
    have HW := Aside0.mk hw
    clear hA2 hA3 hLs hR2 hw hE1 c1 e1 e4 hA HA
    go_wp2_with (first | ((with_reducible refine HI.out.mono ?_); rintro e w' ⟨rfl, hs2, hb2, L2, hL2, ht2, hr2⟩))
    go_roundg n
    case measure => omega
    case rel => exact ⟨c + 1, s2, L2, rfl, ⟨by have := HC.out; omega, by have := HC.out; omega⟩, HA3, ⟨hs2⟩, ⟨HW.out.trans hb2⟩, ⟨hL2, by
     have h1 := congrArg (List.take a) ht2
     rw [List.take_take, List.take_take, Nat.min_eq_left (by omega), List.take_set_of_le (by omega)] at h1
     rw [h1]; exact HL1.out.2⟩, ⟨hr2⟩⟩
set_option maxHeartbeats 8000000 in
set_option maxRecDepth 100000 in
theorem words_calls {W : World} {nb ft : Nat} {cap : Array Value} {T : List Int → Int → Option Int} (hT : Told W nb ft cap T) {cs M : Nat} {s r : Int} {w : World} (hM : M ≤ 100) (hcs : cs ≤ 100)
  (hB : But nb none W w) (hs : Cnt nb s w) (h : wk T cs M [] s = some r) :
  Calls Try.prog 50 #[.int .i64 (cs : Int), .int .i64 (M : Int), .func (.func ft) #[] cap] w fun e w' => e = .returned (.tuple #[]) ∧ Cnt nb r w' ∧ But nb none w w' := by
 have HB := Aside0.mk hB
 have HS := Aside0.mk hs
 have HH := Aside0.mk h
 have HT := Aside0.mk hT
 have HN := Aside0.mk (blk_lt hs)
 clear hB hs h hT
 have hsf := fun (a : Addr) (c : Array Value) (w : World) => run_store Try.prog w a (.func (.func 81) #[] c) .plain rfl
 go_enter Try.func50, Try.ntmps50
 go_wp2_with (first | ((with_reducible refine gate_dst (N := 9) rfl ?_); refine Kd.R_make (Kd.int .i64) _ 3 rfl (N := 9) rfl 22 _ _ rfl (M : Int) rfl rfl Try.underlying22 (.int .i64 0) 8 info3 rfl (by decide) (by omega) 0 (ok := fun k => k ≠ nb) (okp := fun k => k ≠ nb) rfl (fun _ hk => hk) ?hfr (by omega) ?hsz (Below.refl _ _) (Nat.le_refl _) ?_; (case hfr => simp; have := HN.out; omega); (case hsz => omega); intro v1 w1 hR hB2 hg hn; clear hg; obtain ⟨A1, c1, rfl⟩ := Kd.R_slice hR))
 simp only [Int.toNat_natCast, List.length_replicate] at hR hn
 obtain ⟨b, hb1, hb2⟩ := hn
 simp only [al_size] at hb2 hB2 hR
 have z1 := hB2.size
 simp only [al_size] at z1
 have hbn : b ≠ nb := fun e => by have := HN.out; omega
 have hBw : Below w.heap.size w w1 := (below_alloc (below_alloc (below_alloc (Below.refl _ _) _) _) _).trans (hB2.mono (by omega))
 have hn1 := HN.out
 have hb4 : b < w1.heap.size := by
  obtain ⟨inner, ho⟩ := Kd.R_own hR
  exact own_lt ho b hb1
 have ew := (below_alloc (below_alloc hBw (.cells #[.slice A1 M c1] 22)) (.cells #[.func (.func 81) #[] #[.pointer (some ⟨w.heap.size + 1, 0, none⟩), .pointer (some ⟨w.heap.size + 1 + 1, 0, none⟩), .pointer (some ⟨w1.heap.size, 0, none⟩), .pointer (some ⟨w.heap.size, 0, none⟩), .pointer (some ⟨w1.heap.size + 1, 0, none⟩)]] 85))
 refine (try_calls HT.out (d := M) (a := 0) (L := List.replicate M 0) (s := s) (r := r) (cs := cs) (M := M) (wv := .slice A1 M c1) (mb := w.heap.size + 1) (tb := w.heap.size + 1 + 1) (wb := w1.heap.size) (cb := w.heap.size) (yb := w1.heap.size + 1) _ (by omega) (by simp) hM hcs ⟨al_old (al_old (bl_keep hB2 (al_old (al_old (al_new _ _ rfl))) (by omega))), al_old (al_old (bl_keep hB2 (al_old (al_new _ _ (by simp))) (by omega))), al_old (al_old (bl_keep hB2 (al_new _ _ (by simp)) (by omega))), al_old (al_new _ _ rfl), al_new _ _ (by simp), ⟨by omega, ?_⟩, ⟨by omega, ?_⟩, ⟨by omega, ?_⟩, ⟨by omega, ?_⟩, ⟨by omega, ?_⟩⟩ (Kd.R_alloc (Kd.R_alloc (Kd.R_lower hR (by have := HB.out.size; omega)) _) _) (HB.out.trans (But.of_below ew)) ((ew.block nb hn1).trans HS.out) HH.out).mono ?_
 iterate 5 (rw [hb1]; simp; omega)
 rintro e w' ⟨rfl, hs2, hb3, L2, -, -, -⟩
 rw [hb1] at hb3
 have hfin := But.narrow (But.of_below ew) hb3 (fun k hk => by have := Option.some.inj hk; omega)
 go_wp2
 go_end0
 exact ⟨rfl, hs2, hfin⟩

def TTW (k : Nat) (urn : List Int) (rule : List (List Int)) (ms : List S42) (u : List Int) (s : Int) : Option Int := (impl_fits.f k ms u).bind fun b => if b = true then (impl_ruleWays.f k urn rule u).bind fun x => some (wrap64 (s + x)) else some s
set_option maxHeartbeats 8000000 in
set_option maxRecDepth 100000 in
theorem tw1_told (W : World) (nb : Nat) (k : Nat) {A0 A1 A2 : Option Addr} {c0 c1 c2 : Nat} {urn : List Int} {rule : List (List Int)} {ms : List S42} {ub rb tb : Nat} (h0 : urn.length ≤ c0) (h1 : rule.length ≤ c1) (h2 : ms.length ≤ c2)
  (hC0 : ∀ w, But nb none W w → Kd.C (Kd.int .i64) w A0 urn.length urn) (hC1 : ∀ w, But nb none W w → Kd.C (Kd.slice 3 (Kd.int .i64)) w A1 rule.length rule) (hC2 : ∀ w, But nb none W w → Kd.C k42 w A2 ms.length ms)
  (hub : W.heap[ub]? = some (.cells #[.slice A0 urn.length c0] 22 (0, 0))) (hrb : W.heap[rb]? = some (.cells #[.slice A1 rule.length c1] 23 (0, 0))) (htb : W.heap[tb]? = some (.cells #[.slice A2 ms.length c2] 30 (0, 0))) (nub : ub ≠ nb) (nrb : rb ≠ nb) (ntb : tb ≠ nb) :
  Told W nb 52 #[.pointer (some ⟨tb, 0, none⟩), .pointer (some ⟨nb, 0, none⟩), .pointer (some ⟨ub, 0, none⟩), .pointer (some ⟨rb, 0, none⟩)] (TTW k urn rule ms) := by
 refine ⟨fun args w => enters_ (P := Try.prog) Try.func52 (by kernel_rfl) rfl args w, ?_⟩
 intro Au cu u s r w hB hCu hcu hs h
 obtain ⟨b, hb0, h⟩ := Option.bind_eq_some_iff.mp h
 have HCU := Aside0.mk hCu
 have HCU2 := Aside0.mk hcu
 have HS := Aside0.mk hs
 have HF := Aside0.mk hb0
 have HU := Aside0.mk (hB.keep hub nub (by simp))
 have HRU := Aside0.mk (hB.keep hrb nrb (by simp))
 have HTU := Aside0.mk (hB.keep htb ntb (by simp))
 have HC0 := Aside0.mk (hC0 w hB)
 have HC1 := Aside0.mk (hC1 w hB)
 have HC2 := Aside0.mk (hC2 w hB)
 have H0 := Aside0.mk h0
 have H1 := Aside0.mk h1
 have H2 := Aside0.mk h2
 have e3 := cell_of_one HTU.out
 clear hB hCu hcu hs hb0 hub hrb htb hC0 hC1 hC2 h0 h1 h2
 cases b with
 | false =>
  obtain rfl : s = r := Option.some.inj (by simpa using h)
  clear h
  go_enter Try.func52, Try.ntmps52
  go_wp2_with (first | (go_at_call 53; (with_reducible refine (impl_fits.calls k _ _ ms _ _ u _ _ ?sd1 ?sd2 ?sd3 ?sd4 HF.out).mono ?_); (case sd1 => exact HC2.out); (case sd2 => exact H2.out); (case sd3 => exact HCU.out); (case sd4 => exact HCU2.out); rintro e w' ⟨rfl, hb⟩; have HB2 := Aside0.mk hb; clear hb))
  go_end0
  exact ⟨rfl, bl_keep HB2.out HS.out (blk_lt HS.out), But.of_below HB2.out⟩
 | true =>
  obtain ⟨x, hx, h⟩ := Option.bind_eq_some_iff.mp (show (impl_ruleWays.f k urn rule u).bind (fun x => some (wrap64 (s + x))) = some r by simpa using h)
  have hr : wrap64 (s + x) = r := Option.some.inj h
  subst hr; clear h
  have HX := Aside0.mk hx
  clear hx
  go_enter Try.func52, Try.ntmps52
  go_wp2_with (first | (go_at_call 53; (with_reducible refine (impl_fits.calls k _ _ ms _ _ u _ _ ?sd1 ?sd2 ?sd3 ?sd4 HF.out).mono ?_); (case sd1 => exact HC2.out); (case sd2 => exact H2.out); (case sd3 => exact HCU.out); (case sd4 => exact HCU2.out); rintro e w1 ⟨rfl, hb⟩; have HB1 := Aside0.mk hb; have e0 := cell_of_one (bl_keep hb HS.out (blk_lt HS.out)); have e3 := free_of_one (bl_keep hb HS.out (blk_lt HS.out)); have e1 := cell_of_one (bl_keep hb HU.out (blk_lt HU.out)); have e2 := cell_of_one (bl_keep hb HRU.out (blk_lt HRU.out)); clear hb))
  go_region_with (first | (go_at_call 54; (with_reducible refine (impl_ruleWays.calls k _ _ urn _ _ rule _ _ u _ _ ?se1 ?se2 ?se3 ?se4 ?se5 ?se6 HX.out).mono ?_); (case se1 => exact Kd.C_drew (Kd.C_below HC0.out HB1.out)); (case se2 => exact H0.out); (case se3 => exact Kd.C_drew (Kd.C_below HC1.out HB1.out)); (case se4 => exact H1.out); (case se5 => exact Kd.C_drew (Kd.C_below HCU.out HB1.out)); (case se6 => exact HCU2.out); rintro e w' ⟨rfl, hb⟩; have HB2 := Aside0.mk (show Below w.heap.size w w' from HB1.out.trans (((below_drew (Below.refl _ _)).trans hb).mono HB1.out.size)); have e4 := cell_of_one (bl_keep HB2.out HS.out (blk_lt HS.out)); have e7 := free_of_one (bl_keep HB2.out HS.out (blk_lt HS.out)); have e5 := cell_of_one (bl_keep HB2.out HU.out (blk_lt HU.out)); have e6 := cell_of_one (bl_keep HB2.out HRU.out (blk_lt HRU.out)); clear hb))
  all_goals (try go_wp2)
  all_goals go_end0
  all_goals exact ⟨rfl, by (try rw [i64_w]); exact cnt_set (bl_keep HB2.out HS.out (blk_lt HS.out)), (But.of_below HB2.out).set_nb 0 _⟩
def impl_TermWays.f (k : Nat) (l0 : List Int) (l1 : List (List Int)) (l2 : List (S42)) : Option Int := (impl_ruleAsked.f k l0 l1).bind fun t => if t = true then ((impl_TermOk.f k (l0.length : Int) l2).bind fun t2 => if t2 = true then ((impl_lengthOf.f k l2).bind fun m => if 0 ≤ m ∧ m ≤ 100 ∧ l0.length ≤ 100 then wk (TTW k l0 l1 l2) l0.length m.toNat [] 0 else none) else some (-1)) else some (-1)
set_option maxHeartbeats 8000000 in
set_option maxRecDepth 100000 in
theorem impl_TermWays.calls (k : Nat) (A0 : Option Addr) (c0 : Nat) (l0 : List Int) (A1 : Option Addr) (c1 : Nat) (l1 : List (List Int)) (A2 : Option Addr) (c2 : Nat) (l2 : List (S42)) (r : Int) (w : World) (hr0 : Kd.C (Kd.int .i64) w A0 l0.length l0) (hc0 : l0.length ≤ c0) (hr1 : Kd.C (Kd.slice 3 (Kd.int .i64)) w A1 l1.length l1) (hc1 : l1.length ≤ c1) (hr2 : Kd.C k42 w A2 l2.length l2) (hc2 : l2.length ≤ c2) (h : impl_TermWays.f k l0 l1 l2 = some r) :
  Calls Try.prog 16 #[.slice A0 l0.length c0, .slice A1 l1.length c1, .slice A2 l2.length c2] w fun e w' => e = .returned (.int .i64 r) ∧ Below w.heap.size w w' := by
 obtain ⟨t, ht, h⟩ := Option.bind_eq_some_iff.mp h
 have HC0 := Aside0.mk hr0
 have HC1 := Aside0.mk hr1
 have HC2 := Aside0.mk hr2
 have H0 := Aside0.mk hc0
 have H1 := Aside0.mk hc1
 have H2 := Aside0.mk hc2
 have HT := Aside0.mk ht
 have HB0 := Aside0.mk (below_alloc (below_alloc (below_alloc (Below.refl w.heap.size w) (.cells #[.slice A0 l0.length c0] 22)) (.cells #[.slice A1 l1.length c1] 23)) (.cells #[.slice A2 l2.length c2] 30))
 have HU0 := Aside0.mk (show (((w.alloc (.cells #[.slice A0 l0.length c0] 22)).alloc (.cells #[.slice A1 l1.length c1] 23)).alloc (.cells #[.slice A2 l2.length c2] 30)).heap[w.heap.size]? = some (.cells #[.slice A0 l0.length c0] 22 (0, 0)) from al_old (al_old (al_new _ _ rfl)))
 have HR0 := Aside0.mk (show (((w.alloc (.cells #[.slice A0 l0.length c0] 22)).alloc (.cells #[.slice A1 l1.length c1] 23)).alloc (.cells #[.slice A2 l2.length c2] 30)).heap[w.heap.size + 1]? = some (.cells #[.slice A1 l1.length c1] 23 (0, 0)) from al_old (al_new _ _ (al_size _ _).symm))
 have HM0 := Aside0.mk (show (((w.alloc (.cells #[.slice A0 l0.length c0] 22)).alloc (.cells #[.slice A1 l1.length c1] 23)).alloc (.cells #[.slice A2 l2.length c2] 30)).heap[w.heap.size + 1 + 1]? = some (.cells #[.slice A2 l2.length c2] 30 (0, 0)) from al_new _ _ (by simp))
 clear hr0 hr1 hr2 hc0 hc1 hc2 ht
 cases t with
 | false =>
  have hr : (-1 : Int) = r := Option.some.inj (by simpa using h)
  subst hr; clear h
  go_enter Try.func16, Try.ntmps16
  go_wp2_with (first | (go_at_call 48; (with_reducible refine (impl_ruleAsked.calls k _ _ l0 _ _ l1 _ _ ?sd1 ?sd2 ?sd3 ?sd4 HT.out).mono ?_); (case sd1 => exact Kd.C_below HC0.out HB0.out); (case sd2 => exact H0.out); (case sd3 => exact Kd.C_below HC1.out HB0.out); (case sd4 => exact H1.out); rintro e w1 ⟨rfl, hd⟩; have HU := Aside0.mk (bl_keep hd.below HU0.out (blk_lt HU0.out)); have HR := Aside0.mk (bl_keep hd.below HR0.out (blk_lt HR0.out)); have HM := Aside0.mk (bl_keep hd.below HM0.out (blk_lt HM0.out)); have e1 := cell_of_one HU.out; have e3 := cell_of_one HM.out; have HB := Aside0.mk (HB0.out.trans (hd.below.mono HB0.out.size)); clear hd))
  go_ret
  exact ⟨rfl, HB.out⟩
 | true =>
  obtain ⟨t2, ht2, h⟩ := Option.bind_eq_some_iff.mp (show ((impl_TermOk.f k (l0.length : Int) l2).bind fun t2 => if t2 = true then ((impl_lengthOf.f k l2).bind fun m => if 0 ≤ m ∧ m ≤ 100 ∧ l0.length ≤ 100 then wk (TTW k l0 l1 l2) l0.length m.toNat [] 0 else none) else some (-1)) = some r by simpa using h)
  have HT2 := Aside0.mk ht2
  clear ht2
  cases t2 with
  | false =>
   have hr : (-1 : Int) = r := Option.some.inj (by simpa using h)
   subst hr; clear h
   go_enter Try.func16, Try.ntmps16
   go_wp2_with (first | (go_at_call 48; (with_reducible refine (impl_ruleAsked.calls k _ _ l0 _ _ l1 _ _ ?sd1 ?sd2 ?sd3 ?sd4 HT.out).mono ?_); (case sd1 => exact Kd.C_below HC0.out HB0.out); (case sd2 => exact H0.out); (case sd3 => exact Kd.C_below HC1.out HB0.out); (case sd4 => exact H1.out); rintro e w1 ⟨rfl, hd⟩; have HU := Aside0.mk (bl_keep hd.below HU0.out (blk_lt HU0.out)); have HR := Aside0.mk (bl_keep hd.below HR0.out (blk_lt HR0.out)); have HM := Aside0.mk (bl_keep hd.below HM0.out (blk_lt HM0.out)); have e1 := cell_of_one HU.out; have e3 := cell_of_one HM.out; have HB := Aside0.mk (HB0.out.trans (hd.below.mono HB0.out.size)); clear hd) | (go_at_call 49; (with_reducible refine (impl_TermOk.calls k _ _ _ l2 _ _ ?sf1 ?sf2 HT2.out).mono ?_); (case sf1 => exact Kd.C_below HC2.out HB.out); (case sf2 => exact H2.out); rintro e w2 ⟨rfl, hd⟩; have HU2 := Aside0.mk (bl_keep hd HU.out (blk_lt HU.out)); have HR2 := Aside0.mk (bl_keep hd HR.out (blk_lt HR.out)); have HM2 := Aside0.mk (bl_keep hd HM.out (blk_lt HM.out)); have HB2 := Aside0.mk (HB.out.trans (hd.mono HB.out.size)); clear hd))
   go_ret
   exact ⟨rfl, HB2.out⟩
  | true =>
   obtain ⟨m, hm, h⟩ := Option.bind_eq_some_iff.mp (show ((impl_lengthOf.f k l2).bind fun m => if 0 ≤ m ∧ m ≤ 100 ∧ l0.length ≤ 100 then wk (TTW k l0 l1 l2) l0.length m.toNat [] 0 else none) = some r by simpa using h)
   by_cases g : 0 ≤ m ∧ m ≤ 100 ∧ l0.length ≤ 100
   ·rw [if_pos g] at h
    obtain ⟨M, rfl⟩ := Int.eq_ofNat_of_zero_le g.1
    rw [Int.toNat_natCast] at h
    have HMM := Aside0.mk (show M ≤ 100 by omega)
    have HL := Aside0.mk g.2.2
    have HH := Aside0.mk h
    have HLE := Aside0.mk hm
    clear h g hm
    go_enter Try.func16, Try.ntmps16
    go_wp2_with (first | (go_at_call 48; (with_reducible refine (impl_ruleAsked.calls k _ _ l0 _ _ l1 _ _ ?sd1 ?sd2 ?sd3 ?sd4 HT.out).mono ?_); (case sd1 => exact Kd.C_below HC0.out HB0.out); (case sd2 => exact H0.out); (case sd3 => exact Kd.C_below HC1.out HB0.out); (case sd4 => exact H1.out); rintro e w1 ⟨rfl, hd⟩; have HU := Aside0.mk (bl_keep hd.below HU0.out (blk_lt HU0.out)); have HR := Aside0.mk (bl_keep hd.below HR0.out (blk_lt HR0.out)); have HM := Aside0.mk (bl_keep hd.below HM0.out (blk_lt HM0.out)); have e1 := cell_of_one HU.out; have e3 := cell_of_one HM.out; have HB := Aside0.mk (HB0.out.trans (hd.below.mono HB0.out.size)); clear hd) | (go_at_call 49; (with_reducible refine (impl_TermOk.calls k _ _ _ l2 _ _ ?sf1 ?sf2 HT2.out).mono ?_); (case sf1 => exact Kd.C_below HC2.out HB.out); (case sf2 => exact H2.out); rintro e w2 ⟨rfl, hd⟩; have HU2 := Aside0.mk (bl_keep hd HU.out (blk_lt HU.out)); have HR2 := Aside0.mk (bl_keep hd HR.out (blk_lt HR.out)); have HM2 := Aside0.mk (bl_keep hd HM.out (blk_lt HM.out)); have HB2 := Aside0.mk (HB.out.trans (hd.mono HB.out.size)); clear hd))
    have e4 := cell_of_one (al_old (o := .cells #[.int .i64 0] 3) HU2.out)
    have e5 := cell_of_one (al_old (o := .cells #[.int .i64 0] 3) HM2.out)
    have HN1 := Aside0.mk (blk_lt HU2.out)
    have HN2 := Aside0.mk (blk_lt HR2.out)
    have HN3 := Aside0.mk (blk_lt HM2.out)
    have HB3 := Aside0.mk (below_alloc HB2.out (.cells #[.int .i64 0] 3))
    go_region_held3 (fun w' => w'.cell? ⟨w.heap.size, 0, none⟩ = some (.slice A0 l0.length c0) ∧ w'.cell? ⟨w.heap.size + 1 + 1, 0, none⟩ = some (.slice A2 l2.length c2))
     (first | exact ⟨e4, e5⟩ | exact ⟨e6, e7⟩ | exact ⟨e8, e9⟩)
     (first
      | (go_at_call 51; (with_reducible refine (impl_lengthOf.calls k _ _ l2 _ _ ?sg1 ?sg2 HLE.out).mono ?_); (case sg1 => exact Kd.C_drew (Kd.C_below HC2.out HB3.out)); (case sg2 => exact H2.out); rintro e w4 ⟨rfl, hb⟩; have HBL := Aside0.mk (show Below (w2.alloc (.cells #[.int .i64 0] 3)).heap.size (w2.alloc (.cells #[.int .i64 0] 3)) w4 from (below_drew (Below.refl _ _)).trans hb); clear hb; have HU4 := Aside0.mk (bl_keep HBL.out (al_old HU2.out) (blk_lt (al_old HU2.out))); have HR4 := Aside0.mk (bl_keep HBL.out (al_old HR2.out) (blk_lt (al_old HR2.out))); have HM4 := Aside0.mk (bl_keep HBL.out (al_old HM2.out) (blk_lt (al_old HM2.out))); have HS4 := Aside0.mk (show Cnt w2.heap.size 0 w4 from bl_keep HBL.out (cnt_new _ _) (by simp)); have HB4 := Aside0.mk (HB3.out.trans (HBL.out.mono HB3.out.size)); have HG := Aside0.mk (show ∀ w3, But w2.heap.size none w4 w3 → Below w.heap.size w w3 from fun w3 h3 => HB4.out.trans (h3.below HB2.out.size (by simp) HB4.out.size)); have e6 := cell_of_one HU4.out; have e7 := cell_of_one HM4.out)
      | (go_at_call 50; (with_reducible refine (words_calls (tw1_told w4 w2.heap.size k (ub := w.heap.size) (rb := w.heap.size + 1) (tb := w.heap.size + 1 + 1) H0.out H1.out H2.out (fun w3 h3 => Kd.C_below HC0.out (HG.out w3 h3)) (fun w3 h3 => Kd.C_below HC1.out (HG.out w3 h3)) (fun w3 h3 => Kd.C_below HC2.out (HG.out w3 h3)) HU4.out HR4.out HM4.out (Nat.ne_of_lt HN1.out) (Nat.ne_of_lt HN2.out) (Nat.ne_of_lt HN3.out)) HMM.out HL.out (But.refl _ _ _) HS4.out HH.out).mono ?_); rintro e w5 ⟨rfl, hs5, h5⟩; have HS5 := Aside0.mk hs5; have HB5 := Aside0.mk (HG.out w5 h5); have e8 := cell_of_one (h5.keep HU4.out (Nat.ne_of_lt HN1.out) (by simp)); have e9 := cell_of_one (h5.keep HM4.out (Nat.ne_of_lt HN3.out) (by simp)); have e10 := cell_of_one hs5; clear h5 hs5))
    all_goals go_wp2
    all_goals go_ret
    all_goals exact ⟨rfl, HB5.out⟩
   ·rw [if_neg g] at h; simp at h

/-- A state of type 90 at block g of W; what its slices lead to came in by w0. -/
def IsS90 (w0 W : World) (g : Nat) (f0 : List Int) (f1 : Int) : Prop := ∃ A0 c0, W.heap[g]? = some (.cells #[.slice A0 f0.length c0, .int .i64 f1] 90 (0, 0)) ∧ w0.heap.size ≤ g ∧ Kd.C (Kd.int .u8) w0 A0 f0.length f0
theorem IsS90.grown {w0 W : World} {g : Nat} {f0 : List Int} {f1 : Int} {W1 : World} {row : Option Nat} (h : IsS90 w0 W g f0 f1) (hw : W.grownBy W1 row) (hne : some g ≠ row) : IsS90 w0 W1 g f0 f1 := by
 obtain ⟨A0, c0, hb, hg, hr0⟩ := h
 exact ⟨A0, c0, blk_grown hb hw hne, hg, hr0⟩
theorem IsS90.own_neN {w0 W : World} {g : Nat} {f0 : List Int} {f1 : Int} {α : Type} {d : Kd α} {e : Nat} {base : Nat} {ok : Nat → Prop} {v : Value} {xs : List α} (h : IsS90 w0 W g f0 f1) (ho : Kd.N d e W base ok v xs) (ht : e ≠ 90) : some g ≠ v.ownBlock := by
 obtain ⟨A0, c0, hb, hg, hr0⟩ := h
 exact Kd.N_ne ho hb ht
theorem IsS90.fresh {w0 W : World} {g : Nat} {f0 : List Int} {f1 : Int} (h : IsS90 w0 W g f0 f1) : ∀ k, W.heap.size ≤ k → k ≠ g := by
 obtain ⟨A0, c0, hb, hg, hr0⟩ := h
 exact Kd.freshB hb
theorem IsS90.kept {w0 W : World} {g : Nat} {f0 : List Int} {f1 : Int} {W1 : World} {S : Nat → Prop} (h : IsS90 w0 W g f0 f1) (hk : Kept W W1 S) (hne : ¬ S g) : IsS90 w0 W1 g f0 f1 := by
 obtain ⟨A0, c0, hb, hg, hr0⟩ := h
 exact ⟨A0, c0, blk_kept hb hk hne, hg, hr0⟩
theorem IsS90.below {w0 W : World} {g : Nat} {f0 : List Int} {f1 : Int} {W1 : World} (h : IsS90 w0 W g f0 f1) (hw : Below W.heap.size W W1) : IsS90 w0 W1 g f0 f1 := h.grown (grown_of_below hw none) (by simp)
theorem IsS90.alloc {w0 W : World} {g : Nat} {f0 : List Int} {f1 : Int} (h : IsS90 w0 W g f0 f1) (o : Obj) : IsS90 w0 (W.alloc o) g f0 f1 := h.below (below_alloc (Below.refl _ _) o)
theorem IsS90.drewN {w0 W : World} {g : Nat} {f0 : List Int} {f1 : Int} (h : IsS90 w0 W g f0 f1) (m : Nat) : IsS90 w0 (W.drewN m) g f0 f1 := h
theorem IsS90.drew {w0 W : World} {g : Nat} {f0 : List Int} {f1 : Int} (h : IsS90 w0 W g f0 f1) : IsS90 w0 W.drew g f0 f1 := h
theorem IsS90.at_ {w0 W : World} {g : Nat} {f0 : List Int} {f1 : Int} {w' : World} {m : Nat} (hq : W.drewN m = w') (h : IsS90 w0 W g f0 f1) : IsS90 w0 w' g f0 f1 := by subst hq; exact IsS90.drewN h m
theorem IsS90.apart {w0 W : World} {g : Nat} {f0 : List Int} {f1 : Int} {α : Type} {d : Kd α} {e : Nat} {base : Nat} {ok : Nat → Prop} {v : Value} {xs : List α} (h : IsS90 w0 W g f0 f1) (ho : d.R e W base ok v xs) (ht : ∀ q, q ∈ e :: d.E → q ≠ 90) : d.R e W base (fun k => ok k ∧ k ≠ g) v xs := by
 obtain ⟨A0, c0, hb, hg, hr0⟩ := h
 exact Kd.R_types ho hb ht
theorem IsS90.own_ne {w0 W : World} {g : Nat} {f0 : List Int} {f1 : Int} {α : Type} {d : Kd α} {e : Nat} {base : Nat} {ok : Nat → Prop} {v : Value} {xs : List α} (h : IsS90 w0 W g f0 f1) (ho : d.R e W base ok v xs) (ht : e ≠ 90) : some g ≠ v.ownBlock := by
 obtain ⟨A0, c0, hb, hg, hr0⟩ := h
 exact Kd.R_ne ho hb ht
theorem IsS90.apartQ {w0 W : World} {g : Nat} {f0 : List Int} {f1 : Int} {α : Type} {d : Kd α} {e : Nat} {base : Nat} {ok : Nat → Prop} {v : Value} {xs : List α} (h : IsS90 w0 W g f0 f1) (ho : d.Q e W base ok v xs) (ht : ∀ q, q ∈ e :: d.E → q ≠ 90) : d.Q e W base (fun k => ok k ∧ k ≠ g) v xs := by
 obtain ⟨A0, c0, hb, hg, hr0⟩ := h
 exact Kd.Q_types ho hb ht
theorem IsS90.own_neQ {w0 W : World} {g : Nat} {f0 : List Int} {f1 : Int} {α : Type} {d : Kd α} {e : Nat} {base : Nat} {ok : Nat → Prop} {v : Value} {xs : List α} (h : IsS90 w0 W g f0 f1) (ho : d.Q e W base ok v xs) (ht : e ≠ 90) : some g ≠ v.ownBlock := by
 obtain ⟨A0, c0, hb, hg, hr0⟩ := h
 exact Kd.Q_ne ho hb ht
theorem IsS90.apartS {w0 W : World} {g : Nat} {f0 : List Int} {f1 : Int} {α : Type} {d : Kd α} {e : Nat} {base : Nat} {ok : Nat → Prop} {v : Value} {xs : List α} (h : IsS90 w0 W g f0 f1) (ho : d.S e W base ok v xs) (ht : ∀ q, q ∈ e :: d.E → q ≠ 90) : d.S e W base (fun k => ok k ∧ k ≠ g) v xs := by
 obtain ⟨A0, c0, hb, hg, hr0⟩ := h
 exact Kd.S_types ho hb ht
theorem IsS90.own_neS {w0 W : World} {g : Nat} {f0 : List Int} {f1 : Int} {α : Type} {d : Kd α} {e : Nat} {base : Nat} {ok : Nat → Prop} {v : Value} {xs : List α} (h : IsS90 w0 W g f0 f1) (ho : d.S e W base ok v xs) (ht : e ≠ 90) : some g ≠ v.ownBlock := by
 obtain ⟨A0, c0, hb, hg, hr0⟩ := h
 exact Kd.S_ne ho hb ht
theorem IsS90.lt {w0 W : World} {g : Nat} {f0 : List Int} {f1 : Int} (h : IsS90 w0 W g f0 f1) : g < W.heap.size := by
 obtain ⟨A0, c0, hb, hg, hr0⟩ := h
 exact blk_lt hb
theorem IsS90.ge {w0 W : World} {g : Nat} {f0 : List Int} {f1 : Int} (h : IsS90 w0 W g f0 f1) : w0.heap.size ≤ g := by
 obtain ⟨A0, c0, hb, hg, hr0⟩ := h
 exact hg
theorem IsS90.ne_blk {w0 W : World} {g : Nat} {f0 : List Int} {f1 : Int} {a : Nat} {cs : Array Value} {t : TypeId} {fr : Nat × Nat} (h : IsS90 w0 W g f0 f1) (hb2 : W.heap[a]? = some (.cells cs t fr)) (ht : t ≠ 90) : g ≠ a := by
 obtain ⟨A0, c0, hb, hg, hr0⟩ := h
 rintro rfl
 rw [hb] at hb2
 injection hb2 with hb2
 injection hb2 with _ ht2
 exact ht ht2.symm
theorem IsS90.far {w0 W : World} {g : Nat} {f0 : List Int} {f1 : Int} {p : Addr} (h : IsS90 w0 W g f0 f1) (hne : g ≠ p.block) (u : Value) : IsS90 w0 (W.setCell p u) g f0 f1 := by
 obtain ⟨A0, c0, hb, hg, hr0⟩ := h
 exact ⟨A0, c0, blk_far hb hne u, hg, hr0⟩
theorem cellS90_0 {W : World} {g : Nat} {A0 : Option Addr} {c0 : Nat} {f0 : List Int} {f1 : Int} (h : W.heap[g]? = some (.cells #[.slice A0 f0.length c0, .int .i64 f1] 90 (0, 0))) : W.cell? ⟨g, 0, none⟩ = some (.slice A0 f0.length c0) := (blk_cell h 0).trans rfl
theorem cellS90_1 {W : World} {g : Nat} {A0 : Option Addr} {c0 : Nat} {f0 : List Int} {f1 : Int} (h : W.heap[g]? = some (.cells #[.slice A0 f0.length c0, .int .i64 f1] 90 (0, 0))) : W.cell? ⟨g, 1, none⟩ = some (.int .i64 f1) := (blk_cell h 1).trans rfl
theorem IsS90.set_1 {w0 W : World} {g : Nat} {f0 : List Int} {f1 : Int} (h : IsS90 w0 W g f0 f1) (x : Int) : IsS90 w0 (W.setCell ⟨g, 1, none⟩ (.int .i64 x)) g f0 x := by
 obtain ⟨A0, c0, hb, hg, hr0⟩ := h
 exact ⟨A0, c0, by simpa using blk_set hb 1 (.int .i64 x), hg, hr0⟩
theorem IsS90.new (w0 W : World) (A0 : Option Addr) (c0 : Nat) (f0 : List Int) (f1 : Int) (hB : Below w0.heap.size w0 W) (hr0 : Kd.C (Kd.int .u8) w0 A0 f0.length f0) : IsS90 w0 (W.alloc (.cells #[.slice A0 f0.length c0, .int .i64 f1] 90)) W.heap.size f0 f1 := ⟨A0, c0, by simpa using heap_alloc_new W _, hB.size, hr0⟩

/-! ### spec_l20Open: function 56 -/
def spec_l20Open.f (l0 : List Int) : Option (List Int × Int) := if (l0.length : Int) > 2000 then (if 2000 ≤ (l0.length : Int) then (some (l0.take 2000, 0)) else (none)) else (some (l0, 0))
set_option maxHeartbeats 8000000 in
set_option maxRecDepth 100000 in
theorem spec_l20Open.calls (A0 : Option Addr) (c0 : Nat) (l0 : List Int) (r1 : List Int) (r2 : Int) (w0 w : World) (hB : Below w0.heap.size w0 w) (hr0 : Kd.C (Kd.int .u8) w0 A0 l0.length l0) (hc0 : l0.length ≤ c0) (h : spec_l20Open.f l0 = some (r1, r2)) :
  Calls Try.prog 56 #[.slice A0 l0.length c0] w fun e w' => ∃ g_ : Nat, e = .returned (.pointer (some ⟨g_, 0, none⟩)) ∧ IsS90 w0 w' g_ r1 r2 ∧ Below w0.heap.size w0 w' ∧ Below w.heap.size w w' := by
 have hu90 := Try.underlying90
 have HR0 := Aside0.mk hr0
 have HC0 := Aside0.mk hc0
 clear hr0 hc0
 have HBW := Aside0.mk (Below.refl w.heap.size w)
 have HW0 := Aside0.mk hB.size
 have HB := Aside0.mk hB
 clear hB
 have H : (if (l0.length : Int) > 2000 then (if 2000 ≤ (l0.length : Int) then (some (l0.take 2000, 0)) else (none)) else (some (l0, 0))) = some (r1, r2) := h
 clear h
 by_cases c2 : (l0.length : Int) > 2000
 ·rw [if_pos c2] at H
  have c2b0 : decide (2000 < (l0.length : Int)) = true := decide_eq_true c2
  have c2b1 : decide (2000 < l0.length) = true := decide_eq_true (by omega)
  clear c2
  by_cases c3 : 2000 ≤ (l0.length : Int)
  ·rw [if_pos c3] at H
   have c3b0 := eq_true c3
   have c3b1 : decide (2000 ≤ (l0.length : Int)) = true := decide_eq_true c3
   clear c3
   simp only [Option.some.injEq, Prod.mk.injEq] at H
   obtain ⟨rfl, rfl⟩ := H
   obtain ⟨i04, hi04, _, hsz4, _⟩ := info_parts info5
   obtain ⟨hcut4, hA4, hC4⟩ := print_take_of (P := Try.prog) (Value.int .u8) 0 36 5 .i64 Try.underlying36 hi04 hsz4 A0 c0 l0 2000 (by omega) (of_decide_eq_true (by assumption)) HC0.out
   have HR356 := Aside0.mk (Kd.C_of_reads (h1 := fun _ => rfl) (hA4 _ (Kd.reads_of_C HR0.out)))
   have HC356 := Aside0.mk hC4
   clear hA4 hC4 hi04 hsz4
   go_enter Try.func56, Try.ntmps56
   go_wp2_with (first | ((with_reducible refine gate_dst (N := 10) rfl ?_); refine box_event ?hg (N := 10) ?hd (cs := #[.slice A0 (l0.take 2000).length c0, .int .i64 0]) (t := 90) ?hr ?_; (case hd => rfl); (case hg => rfl); (case hr => first | (go_simp; done) | (go_simp; rfl)); intro gb357 hg w5 hbox hb; have n0_ := Aside0.mk (below_step HBW.out hb); have n1_ := Aside0.mk (below_step (HB.out) hb); have n2_ := Aside0.mk (hbox); have n3_ := Aside0.mk ((by rw [hg]; exact (below_size (by repeat (first | (with_reducible first | exact HBW.out | apply below_alloc | apply pw_below_drewN | apply below_drew1) | exact HBW.out))) : w.heap.size ≤ gb357)); have n4_ := Aside0.mk ((Nat.le_trans HW0.out (by rw [hg]; exact (below_size (by repeat (first | (with_reducible first | exact HBW.out | apply below_alloc | apply pw_below_drewN | apply below_drew1) | exact HBW.out))) : w.heap.size ≤ gb357) : w0.heap.size ≤ gb357)); clear HBW; clear HB; have HBW := n0_; have HB := n1_; have BK357 := n2_; have GW357 := n3_; have GE357 := n4_; clear n0_ n1_ n2_ n3_ n4_; clear hb hbox hg))
   go_ret
   exact ⟨_, rfl, (show IsS90 w0 _ gb357 (l0.take 2000) 0 from ⟨_, _, by (with_reducible repeat (first | refine blk_drewN ?_ _ | refine blk_drew ?_ | refine blk_alloc ?_ _)); exact BK357.out, GE357.out, HR356.out⟩), by repeat (first | (with_reducible first | exact HB.out | apply below_alloc | apply pw_below_drewN | apply below_drew1 | refine below_set ?_ GE357.out) | exact HB.out), by repeat (first | (with_reducible first | exact HBW.out | apply below_alloc | apply pw_below_drewN | apply below_drew1 | refine below_set ?_ GW357.out) | exact HBW.out)⟩
  ·rw [if_neg c3] at H
   exact absurd H (by simp)
 ·rw [if_neg c2] at H
  have c2b0 : decide (2000 < (l0.length : Int)) = false := decide_eq_false c2
  have c2b1 : decide (2000 < l0.length) = false := decide_eq_false (by omega)
  clear c2
  simp only [Option.some.injEq, Prod.mk.injEq] at H
  obtain ⟨rfl, rfl⟩ := H
  go_enter Try.func56, Try.ntmps56
  go_wp2_with (first | ((with_reducible refine gate_dst (N := 10) rfl ?_); refine box_event ?hg (N := 10) ?hd (cs := #[.slice A0 l0.length c0, .int .i64 0]) (t := 90) ?hr ?_; (case hd => rfl); (case hg => rfl); (case hr => first | (go_simp; done) | (go_simp; rfl)); intro gb358 hg w6 hbox hb; have n0_ := Aside0.mk (below_step HBW.out hb); have n1_ := Aside0.mk (below_step (HB.out) hb); have n2_ := Aside0.mk (hbox); have n3_ := Aside0.mk ((by rw [hg]; exact (below_size (by repeat (first | (with_reducible first | exact HBW.out | apply below_alloc | apply pw_below_drewN | apply below_drew1) | exact HBW.out))) : w.heap.size ≤ gb358)); have n4_ := Aside0.mk ((Nat.le_trans HW0.out (by rw [hg]; exact (below_size (by repeat (first | (with_reducible first | exact HBW.out | apply below_alloc | apply pw_below_drewN | apply below_drew1) | exact HBW.out))) : w.heap.size ≤ gb358) : w0.heap.size ≤ gb358)); clear HBW; clear HB; have HBW := n0_; have HB := n1_; have BK358 := n2_; have GW358 := n3_; have GE358 := n4_; clear n0_ n1_ n2_ n3_ n4_; clear hb hbox hg))
  go_ret
  exact ⟨_, rfl, (show IsS90 w0 _ gb358 l0 0 from ⟨_, _, by (with_reducible repeat (first | refine blk_drewN ?_ _ | refine blk_drew ?_ | refine blk_alloc ?_ _)); exact BK358.out, GE358.out, HR0.out⟩), by repeat (first | (with_reducible first | exact HB.out | apply below_alloc | apply pw_below_drewN | apply below_drew1 | refine below_set ?_ GE358.out) | exact HB.out), by repeat (first | (with_reducible first | exact HBW.out | apply below_alloc | apply pw_below_drewN | apply below_drew1 | refine below_set ?_ GW358.out) | exact HBW.out)⟩

/-! ### spec_l20Rd_pick: function 72 -/
def spec_l20Rd_pick.j0 : Nat → Int → Bool → List Int → Int → Option (Int × Int)
 | 0, _, _, _, _ => none
 | k + 1, x1, x24, x1000, x1001 => if x24 = true then (some (0, x1001)) else (if (wrap64 (x1001 - 1)) < (x1000.length : Int) then (if 0 ≤ (wrap64 (x1001 - 1)) then (if x1 = 0 then (none) else (some (Int.tmod (wrap64 (rd x1000 (wrap64 (x1001 - 1)))) x1, x1001))) else (none)) else (if (x1000.length : Int) = 0 then (none) else (if 0 ≤ (Int.tmod (wrap64 (x1001 - 1)) (x1000.length : Int)) then (if (Int.tmod (wrap64 (x1001 - 1)) (x1000.length : Int)) < (x1000.length : Int) then (if 0 ≤ (Int.tmod (wrap64 ((wrap64 ((wrap64 (x1001 - 1)) * 7)) + 3)) (x1000.length : Int)) then (if (Int.tmod (wrap64 ((wrap64 ((wrap64 (x1001 - 1)) * 7)) + 3)) (x1000.length : Int)) < (x1000.length : Int) then (if x1 = 0 then (none) else (some (Int.tmod (Go.bits .xor .i64 (wrap64 ((wrap64 ((wrap64 ((wrap64 ((wrap64 (rd x1000 (Int.tmod (wrap64 (x1001 - 1)) (x1000.length : Int)))) * 131)) + (wrap64 ((wrap64 (rd x1000 (Int.tmod (wrap64 ((wrap64 ((wrap64 (x1001 - 1)) * 7)) + 3)) (x1000.length : Int)))) * 1117)))) + (wrap64 ((wrap64 (x1001 - 1)) * 29)))) + (wrap64 ((wrap64 (Int.tdiv (wrap64 (x1001 - 1)) (x1000.length : Int))) * 53)))) (wrap64 (Int.tdiv (wrap64 ((wrap64 ((wrap64 ((wrap64 ((wrap64 (rd x1000 (Int.tmod (wrap64 (x1001 - 1)) (x1000.length : Int)))) * 131)) + (wrap64 ((wrap64 (rd x1000 (Int.tmod (wrap64 ((wrap64 ((wrap64 (x1001 - 1)) * 7)) + 3)) (x1000.length : Int)))) * 1117)))) + (wrap64 ((wrap64 (x1001 - 1)) * 29)))) + (wrap64 ((wrap64 (Int.tdiv (wrap64 (x1001 - 1)) (x1000.length : Int))) * 53)))) 64))) x1, x1001))) else (none)) else (none)) else (none)) else (none))))
def spec_l20Rd_pick.f (k : Nat) (s0_0 : List Int) (s0_1 : Int) (a1 : Int) : Option (Int × Int) := if a1 < 1 then (spec_l20Rd_pick.j0 k a1 true s0_0 (wrap64 (s0_1 + 1))) else (spec_l20Rd_pick.j0 k a1 ((s0_0.length : Int) == 0) s0_0 (wrap64 (s0_1 + 1)))
set_option maxHeartbeats 8000000 in
set_option maxRecDepth 100000 in
theorem spec_l20Rd_pick.calls (k : Nat) (g : Nat) (s0_0 : List Int) (s0_1 : Int) (a1 : Int) (r1 : Int) (r2 : Int) (w0 w : World) (hI : IsS90 w0 w g s0_0 s0_1) (hB : Below w0.heap.size w0 w) (h : spec_l20Rd_pick.f k s0_0 s0_1 a1 = some (r1, r2)) :
  Calls Try.prog 72 #[.pointer (some ⟨g, 0, none⟩), .int .i64 a1] w fun e w' => e = .returned (.int .i64 r1) ∧ IsS90 w0 w' g s0_0 r2 ∧ Below w0.heap.size w0 w' ∧ KeepBut w w' g none := by
 have HI0 := Aside0.mk hI
 have HK := Aside0.mk (KeepBut.refl w g none)
 have HL := Aside0.mk hB.size
 clear hI
 have HW0 := Aside0.mk hB.size
 have HB := Aside0.mk hB
 clear hB
 have H : (if a1 < 1 then (spec_l20Rd_pick.j0 k a1 true s0_0 (wrap64 (s0_1 + 1))) else (spec_l20Rd_pick.j0 k a1 ((s0_0.length : Int) == 0) s0_0 (wrap64 (s0_1 + 1)))) = some (r1, r2) := h
 clear h
 have HC3 := Aside0.mk H
 clear H
 obtain ⟨ASz4_0, cSz4_0, HGz4, hgz4, HSz4_0⟩ := HI0.out
 have hcz4_0 := cellS90_0 HGz4
 have hcz4_1 := cellS90_1 HGz4
 have hfz4_1 := blk_frozen HGz4 1
 clear HGz4 hgz4
 go_enter Try.func72, Try.ntmps72
 go_upto_region 2 with (fail)
 repeat (go_quiet (fail); go_upto_region 2 with (fail))
 go_cut [24] (fun v24 wc => ∃ (kq : Nat) (x24_2 : Bool), v24 = .bool x24_2 ∧ Aside0 (spec_l20Rd_pick.j0 kq a1 x24_2 s0_0 (wrap64 (s0_1 + 1)) = some (r1, r2)) ∧ Aside0 (kq ≤ k) ∧ Aside0 (IsS90 w0 wc g s0_0 (wrap64 (s0_1 + 1))) ∧ Aside0 (KeepBut w wc g none) ∧ Aside0 (Below w0.heap.size w0 wc))
 case first =>
  have H := HC3.out
  clear HC3
  by_cases c5 : a1 < 1
  ·rw [if_pos c5] at H
   have c5b0 : decide (a1 < 1) = true := decide_eq_true c5
   clear c5
   (first | rw [c5b0] | (simp only [i64_w, i32_w]; rw [c5b0]) | skip)
   have H' := Aside0.mk H
   clear H
   go_wp2
   repeat (go_quiet (fail); try go_wp2)
   go_meet
   case rel => exact ⟨_, (true), (by first | rfl | (simp; done) | (simp [*]; done)), H', ⟨by first | omega | exact Nat.le_refl _⟩, ⟨by repeat (first | (with_reducible first | exact HI0.out | apply IsS90.alloc | apply IsS90.drewN | apply IsS90.drew | apply IsS90.set_1) | exact HI0.out)⟩, ⟨by repeat (first | (with_reducible first | exact HK.out | apply KeepBut.set_ | apply keep_drewN | apply keep_drew | apply keep_alloc) | exact HK.out)⟩, ⟨by repeat (first | (with_reducible first | exact HB.out | apply below_alloc | apply pw_below_drewN | apply below_drew1 | refine below_set ?_ (IsS90.ge HI0.out)) | exact HB.out)⟩⟩
  ·rw [if_neg c5] at H
   have c5b0 : decide (a1 < 1) = false := decide_eq_false c5
   clear c5
   (first | rw [c5b0] | (simp only [i64_w, i32_w]; rw [c5b0]) | skip)
   have H' := Aside0.mk H
   clear H
   obtain ⟨ASz6_0, cSz6_0, HGz6, hgz6, HSz6_0⟩ := HI0.out
   have hcz6_0 := cellS90_0 HGz6
   have hcz6_1 := cellS90_1 HGz6
   have hfz6_1 := blk_frozen HGz6 1
   clear HGz6 hgz6
   go_wp2
   repeat (go_quiet (fail); try go_wp2)
   go_meet
   case rel => exact ⟨_, (((s0_0.length : Int) == 0)), (by first | rfl | (simp; done) | (simp [*]; done)), H', ⟨by first | omega | exact Nat.le_refl _⟩, ⟨by repeat (first | (with_reducible first | exact HI0.out | apply IsS90.alloc | apply IsS90.drewN | apply IsS90.drew | apply IsS90.set_1) | exact HI0.out)⟩, ⟨by repeat (first | (with_reducible first | exact HK.out | apply KeepBut.set_ | apply keep_drewN | apply keep_drew | apply keep_alloc) | exact HK.out)⟩, ⟨by repeat (first | (with_reducible first | exact HB.out | apply below_alloc | apply pw_below_drewN | apply below_drew1 | refine below_set ?_ (IsS90.ge HI0.out)) | exact HB.out)⟩⟩
 case rest =>
  clear HC3
  try clear p2
  try clear c5
  try clear c5b0
  try clear p6
  try clear hcz4_0
  try clear hcz4_1
  try clear hcz6_0
  try clear hcz6_1
  try clear hfz4_1
  try clear hfz6_1
  obtain ⟨kq, x24_2, rfl, HA, HJ2, HI0, HK, HB⟩ := hcut
  cases kq with
  | zero => exact absurd HA.out (by simp [spec_l20Rd_pick.j0])
  | succ kj2 =>
   have H := HA.out
   clear HA
   simp only [spec_l20Rd_pick.j0] at H
   by_cases c7 : x24_2 = true
   ·subst c7
    have H1 : (some (0, (wrap64 (s0_1 + 1)))) = some (r1, r2) := by rw [if_pos rfl] at H; exact H
    clear H
    have H := H1
    clear H1
    simp only [Option.some.injEq, Prod.mk.injEq] at H
    obtain ⟨rfl, rfl⟩ := H
    go_wp2
    repeat (go_quiet (fail); try go_wp2)
    go_ret
    exact ⟨by first | rfl | (simp [errW_none, errW_some] <;> rfl) | (simp [*, errW_none, errW_some] <;> rfl), by repeat (first | (with_reducible first | exact HI0.out | apply IsS90.alloc | apply IsS90.drewN | apply IsS90.drew | apply IsS90.set_1) | exact HI0.out), by repeat (first | (with_reducible first | exact HB.out | apply below_alloc | apply pw_below_drewN | apply below_drew1 | refine below_set ?_ (IsS90.ge HI0.out)) | exact HB.out), by repeat (first | (with_reducible first | exact HK.out | apply KeepBut.set_ | apply keep_drewN | apply keep_drew | apply keep_alloc) | exact HK.out)⟩
   ·replace c7 := Bool.eq_false_iff.mpr c7
    subst c7
    have H1 : (if (wrap64 ((wrap64 (s0_1 + 1)) - 1)) < (s0_0.length : Int) then (if 0 ≤ (wrap64 ((wrap64 (s0_1 + 1)) - 1)) then (if a1 = 0 then (none) else (some (Int.tmod (wrap64 (rd s0_0 (wrap64 ((wrap64 (s0_1 + 1)) - 1)))) a1, (wrap64 (s0_1 + 1))))) else (none)) else (if (s0_0.length : Int) = 0 then (none) else (if 0 ≤ (Int.tmod (wrap64 ((wrap64 (s0_1 + 1)) - 1)) (s0_0.length : Int)) then (if (Int.tmod (wrap64 ((wrap64 (s0_1 + 1)) - 1)) (s0_0.length : Int)) < (s0_0.length : Int) then (if 0 ≤ (Int.tmod (wrap64 ((wrap64 ((wrap64 ((wrap64 (s0_1 + 1)) - 1)) * 7)) + 3)) (s0_0.length : Int)) then (if (Int.tmod (wrap64 ((wrap64 ((wrap64 ((wrap64 (s0_1 + 1)) - 1)) * 7)) + 3)) (s0_0.length : Int)) < (s0_0.length : Int) then (if a1 = 0 then (none) else (some (Int.tmod (Go.bits .xor .i64 (wrap64 ((wrap64 ((wrap64 ((wrap64 ((wrap64 (rd s0_0 (Int.tmod (wrap64 ((wrap64 (s0_1 + 1)) - 1)) (s0_0.length : Int)))) * 131)) + (wrap64 ((wrap64 (rd s0_0 (Int.tmod (wrap64 ((wrap64 ((wrap64 ((wrap64 (s0_1 + 1)) - 1)) * 7)) + 3)) (s0_0.length : Int)))) * 1117)))) + (wrap64 ((wrap64 ((wrap64 (s0_1 + 1)) - 1)) * 29)))) + (wrap64 ((wrap64 (Int.tdiv (wrap64 ((wrap64 (s0_1 + 1)) - 1)) (s0_0.length : Int))) * 53)))) (wrap64 (Int.tdiv (wrap64 ((wrap64 ((wrap64 ((wrap64 ((wrap64 (rd s0_0 (Int.tmod (wrap64 ((wrap64 (s0_1 + 1)) - 1)) (s0_0.length : Int)))) * 131)) + (wrap64 ((wrap64 (rd s0_0 (Int.tmod (wrap64 ((wrap64 ((wrap64 ((wrap64 (s0_1 + 1)) - 1)) * 7)) + 3)) (s0_0.length : Int)))) * 1117)))) + (wrap64 ((wrap64 ((wrap64 (s0_1 + 1)) - 1)) * 29)))) + (wrap64 ((wrap64 (Int.tdiv (wrap64 ((wrap64 (s0_1 + 1)) - 1)) (s0_0.length : Int))) * 53)))) 64))) a1, (wrap64 (s0_1 + 1))))) else (none)) else (none)) else (none)) else (none)))) = some (r1, r2) := by rw [if_neg (show ¬ (false = true) by decide)] at H; exact H
    clear H
    have H := H1
    clear H1
    by_cases c8 : (wrap64 ((wrap64 (s0_1 + 1)) - 1)) < (s0_0.length : Int)
    ·rw [if_pos c8] at H
     have c8b0 : decide ((wrap64 ((wrap64 (s0_1 + 1)) - 1)) < (s0_0.length : Int)) = true := decide_eq_true c8
     clear c8
     obtain ⟨ji9, hji9⟩ : ∃ j_ : Int, (wrap64 ((wrap64 (s0_1 + 1)) - 1)) = j_ := ⟨_, rfl⟩
     replace H : (if 0 ≤ (ji9) then (if a1 = 0 then (none) else (some (Int.tmod (wrap64 (rd s0_0 (ji9))) a1, (wrap64 (s0_1 + 1))))) else (none)) = some (r1, r2) := by first | (rw [hji9] at H; exact H) | (simp only [hji9] at H ⊢; exact H)
     (try rw [hji9] at c8b0)
     have hji9w : (IntKind.i64.wrap ((wrap64 (s0_1 + 1)) - 1)) = ji9 := (i64_w _).trans hji9
     by_cases c10 : 0 ≤ (ji9)
     ·rw [if_pos c10] at H
      have c10b0 : decide (0 ≤ (ji9)) = true := decide_eq_true c10
      clear c10
      by_cases c11 : a1 = 0
      ·rw [if_pos c11] at H
       exact absurd H (by simp)
      ·rw [if_neg c11] at H
       have c11b0 : (a1 == 0) = false := beq_eq_false_iff_ne.mpr c11
       have c11b1 : (a1 != 0) = true := bne_iff_ne.mpr c11
       simp only [Option.some.injEq, Prod.mk.injEq] at H
       obtain ⟨rfl, rfl⟩ := H
       obtain ⟨ASz12_0, cSz12_0, HGz12, hgz12, HSz12_0⟩ := HI0.out
       have hcz12_0 := cellS90_0 HGz12
       have hcz12_1 := cellS90_1 HGz12
       have hfz12_1 := blk_frozen HGz12 1
       clear HGz12 hgz12
       have p359 : 0 ≤ ((ji9) : Int) := of_decide_eq_true (by assumption)
       have q359 : (ji9) < (s0_0.length : Int) := of_decide_eq_true (by assumption)
       obtain ⟨ad359, e359, hx359_0⟩ := Kd.at_int HSz12_0 (ji9) p359 q359
       cases e359
       replace hx359_0 := pw_cell_below HB.out hx359_0
       replace p359 := eq_true p359
       replace q359 := eq_true q359
       go_wp2
       repeat (go_quiet (fail); try go_wp2)
       go_ret
       exact ⟨by first | rfl | (simp [errW_none, errW_some] <;> rfl) | (simp only [← hji9]; first | rfl | (simp [errW_none, errW_some] <;> rfl)) | (simp [*, errW_none, errW_some] <;> rfl), by repeat (first | (with_reducible first | exact HI0.out | apply IsS90.alloc | apply IsS90.drewN | apply IsS90.drew | apply IsS90.set_1) | exact HI0.out), by repeat (first | (with_reducible first | exact HB.out | apply below_alloc | apply pw_below_drewN | apply below_drew1 | refine below_set ?_ (IsS90.ge HI0.out)) | exact HB.out), by repeat (first | (with_reducible first | exact HK.out | apply KeepBut.set_ | apply keep_drewN | apply keep_drew | apply keep_alloc) | exact HK.out)⟩
     ·rw [if_neg c10] at H
      exact absurd H (by simp)
    ·rw [if_neg c8] at H
     have c8b0 : decide ((wrap64 ((wrap64 (s0_1 + 1)) - 1)) < (s0_0.length : Int)) = false := decide_eq_false c8
     clear c8
     by_cases c13 : (s0_0.length : Int) = 0
     ·rw [if_pos c13] at H
      exact absurd H (by simp)
     ·rw [if_neg c13] at H
      have c13b0 : ((s0_0.length : Int) == 0) = false := beq_eq_false_iff_ne.mpr c13
      have c13b1 : ((s0_0.length : Int) != 0) = true := bne_iff_ne.mpr c13
      have c13b2 : ¬ (s0_0 = []) := fun h_ => c13 (by rw [h_]; rfl)
      obtain ⟨ji14, hji14⟩ : ∃ j_ : Int, (Int.tmod (wrap64 ((wrap64 (s0_1 + 1)) - 1)) (s0_0.length : Int)) = j_ := ⟨_, rfl⟩
      replace H : (if 0 ≤ (ji14) then (if (ji14) < (s0_0.length : Int) then (if 0 ≤ (Int.tmod (wrap64 ((wrap64 ((wrap64 ((wrap64 (s0_1 + 1)) - 1)) * 7)) + 3)) (s0_0.length : Int)) then (if (Int.tmod (wrap64 ((wrap64 ((wrap64 ((wrap64 (s0_1 + 1)) - 1)) * 7)) + 3)) (s0_0.length : Int)) < (s0_0.length : Int) then (if a1 = 0 then (none) else (some (Int.tmod (Go.bits .xor .i64 (wrap64 ((wrap64 ((wrap64 ((wrap64 ((wrap64 (rd s0_0 (ji14))) * 131)) + (wrap64 ((wrap64 (rd s0_0 (Int.tmod (wrap64 ((wrap64 ((wrap64 ((wrap64 (s0_1 + 1)) - 1)) * 7)) + 3)) (s0_0.length : Int)))) * 1117)))) + (wrap64 ((wrap64 ((wrap64 (s0_1 + 1)) - 1)) * 29)))) + (wrap64 ((wrap64 (Int.tdiv (wrap64 ((wrap64 (s0_1 + 1)) - 1)) (s0_0.length : Int))) * 53)))) (wrap64 (Int.tdiv (wrap64 ((wrap64 ((wrap64 ((wrap64 ((wrap64 (rd s0_0 (ji14))) * 131)) + (wrap64 ((wrap64 (rd s0_0 (Int.tmod (wrap64 ((wrap64 ((wrap64 ((wrap64 (s0_1 + 1)) - 1)) * 7)) + 3)) (s0_0.length : Int)))) * 1117)))) + (wrap64 ((wrap64 ((wrap64 (s0_1 + 1)) - 1)) * 29)))) + (wrap64 ((wrap64 (Int.tdiv (wrap64 ((wrap64 (s0_1 + 1)) - 1)) (s0_0.length : Int))) * 53)))) 64))) a1, (wrap64 (s0_1 + 1))))) else (none)) else (none)) else (none)) else (none)) = some (r1, r2) := by first | (rw [hji14] at H; exact H) | (simp only [hji14] at H ⊢; exact H)
      by_cases c15 : 0 ≤ (ji14)
      ·rw [if_pos c15] at H
       have c15b0 : decide (0 ≤ (ji14)) = true := decide_eq_true c15
       clear c15
       by_cases c16 : (ji14) < (s0_0.length : Int)
       ·rw [if_pos c16] at H
        have c16b0 : decide ((ji14) < (s0_0.length : Int)) = true := decide_eq_true c16
        clear c16
        obtain ⟨ji17, hji17⟩ : ∃ j_ : Int, (Int.tmod (wrap64 ((wrap64 ((wrap64 ((wrap64 (s0_1 + 1)) - 1)) * 7)) + 3)) (s0_0.length : Int)) = j_ := ⟨_, rfl⟩
        replace H : (if 0 ≤ (ji17) then (if (ji17) < (s0_0.length : Int) then (if a1 = 0 then (none) else (some (Int.tmod (Go.bits .xor .i64 (wrap64 ((wrap64 ((wrap64 ((wrap64 ((wrap64 (rd s0_0 (ji14))) * 131)) + (wrap64 ((wrap64 (rd s0_0 (ji17))) * 1117)))) + (wrap64 ((wrap64 ((wrap64 (s0_1 + 1)) - 1)) * 29)))) + (wrap64 ((wrap64 (Int.tdiv (wrap64 ((wrap64 (s0_1 + 1)) - 1)) (s0_0.length : Int))) * 53)))) (wrap64 (Int.tdiv (wrap64 ((wrap64 ((wrap64 ((wrap64 ((wrap64 (rd s0_0 (ji14))) * 131)) + (wrap64 ((wrap64 (rd s0_0 (ji17))) * 1117)))) + (wrap64 ((wrap64 ((wrap64 (s0_1 + 1)) - 1)) * 29)))) + (wrap64 ((wrap64 (Int.tdiv (wrap64 ((wrap64 (s0_1 + 1)) - 1)) (s0_0.length : Int))) * 53)))) 64))) a1, (wrap64 (s0_1 + 1))))) else (none)) else (none)) = some (r1, r2) := by first | (rw [hji17] at H; exact H) | (simp only [hji17] at H ⊢; exact H)
        by_cases c18 : 0 ≤ (ji17)
        ·rw [if_pos c18] at H
         have c18b0 : decide (0 ≤ (ji17)) = true := decide_eq_true c18
         clear c18
         by_cases c19 : (ji17) < (s0_0.length : Int)
         ·rw [if_pos c19] at H
          have c19b0 : decide ((ji17) < (s0_0.length : Int)) = true := decide_eq_true c19
          clear c19
          by_cases c20 : a1 = 0
          ·rw [if_pos c20] at H
           exact absurd H (by simp)
          ·rw [if_neg c20] at H
           have c20b0 : (a1 == 0) = false := beq_eq_false_iff_ne.mpr c20
           have c20b1 : (a1 != 0) = true := bne_iff_ne.mpr c20
           simp only [Option.some.injEq, Prod.mk.injEq] at H
           obtain ⟨rfl, rfl⟩ := H
           obtain ⟨ASz21_0, cSz21_0, HGz21, hgz21, HSz21_0⟩ := HI0.out
           have hcz21_0 := cellS90_0 HGz21
           have hcz21_1 := cellS90_1 HGz21
           have hfz21_1 := blk_frozen HGz21 1
           clear HGz21 hgz21
           have p360 : 0 ≤ ((ji14) : Int) := of_decide_eq_true (by assumption)
           have q360 : (ji14) < (s0_0.length : Int) := of_decide_eq_true (by assumption)
           obtain ⟨ad360, e360, hx360_0⟩ := Kd.at_int HSz21_0 (ji14) p360 q360
           cases e360
           replace hx360_0 := pw_cell_below HB.out hx360_0
           replace p360 := eq_true p360
           replace q360 := eq_true q360
           have p361 : 0 ≤ ((ji17) : Int) := of_decide_eq_true (by assumption)
           have q361 : (ji17) < (s0_0.length : Int) := of_decide_eq_true (by assumption)
           obtain ⟨ad361, e361, hx361_0⟩ := Kd.at_int HSz21_0 (ji17) p361 q361
           obtain rfl : ad360 = ad361 := (by injection e361)
           replace hx361_0 := pw_cell_below HB.out hx361_0
           replace p361 := eq_true p361
           replace q361 := eq_true q361
           go_wp2
           repeat (go_quiet (fail); try go_wp2)
           go_ret
           exact ⟨by first | rfl | (simp [errW_none, errW_some] <;> rfl) | (simp only [← hji14, ← hji17]; first | rfl | (simp [errW_none, errW_some] <;> rfl)) | (simp [*, errW_none, errW_some] <;> rfl), by repeat (first | (with_reducible first | exact HI0.out | apply IsS90.alloc | apply IsS90.drewN | apply IsS90.drew | apply IsS90.set_1) | exact HI0.out), by repeat (first | (with_reducible first | exact HB.out | apply below_alloc | apply pw_below_drewN | apply below_drew1 | refine below_set ?_ (IsS90.ge HI0.out)) | exact HB.out), by repeat (first | (with_reducible first | exact HK.out | apply KeepBut.set_ | apply keep_drewN | apply keep_drew | apply keep_alloc) | exact HK.out)⟩
         ·rw [if_neg c19] at H
          exact absurd H (by simp)
        ·rw [if_neg c18] at H
         exact absurd H (by simp)
       ·rw [if_neg c16] at H
        exact absurd H (by simp)
      ·rw [if_neg c15] at H
       exact absurd H (by simp)

/-! ### spec_l20Rd_odd: function 85 -/
def spec_l20Rd_odd.f (k : Nat) (s0_0 : List Int) (s0_1 : Int) (a1 : Int) : Option (Bool × Int) := if a1 > 0 then ((spec_l20Rd_pick.f k s0_0 s0_1 a1).bind fun bt362 => (some ((bt362.1 == (wrap64 (a1 - 1))), bt362.2))) else (some (false, s0_1))
set_option maxHeartbeats 8000000 in
set_option maxRecDepth 100000 in
theorem spec_l20Rd_odd.calls (k : Nat) (g : Nat) (s0_0 : List Int) (s0_1 : Int) (a1 : Int) (r1 : Bool) (r2 : Int) (w0 w : World) (hI : IsS90 w0 w g s0_0 s0_1) (hB : Below w0.heap.size w0 w) (h : spec_l20Rd_odd.f k s0_0 s0_1 a1 = some (r1, r2)) :
  Calls Try.prog 85 #[.pointer (some ⟨g, 0, none⟩), .int .i64 a1] w fun e w' => e = .returned (.bool r1) ∧ IsS90 w0 w' g s0_0 r2 ∧ Below w0.heap.size w0 w' ∧ KeepBut w w' g none := by
 have HI0 := Aside0.mk hI
 have HK := Aside0.mk (KeepBut.refl w g none)
 have HL := Aside0.mk hB.size
 clear hI
 have HW0 := Aside0.mk hB.size
 have HB := Aside0.mk hB
 clear hB
 have H : (if a1 > 0 then ((spec_l20Rd_pick.f k s0_0 s0_1 a1).bind fun bt362 => (some ((bt362.1 == (wrap64 (a1 - 1))), bt362.2))) else (some (false, s0_1))) = some (r1, r2) := h
 clear h
 by_cases c3 : a1 > 0
 ·rw [if_pos c3] at H
  have c3b0 : decide (0 < a1) = true := decide_eq_true c3
  clear c3
  replace H := Option.bind_eq_some_iff.mp H
  obtain ⟨⟨t362, t363⟩, A40, H⟩ := H
  replace H : (some ((t362 == (wrap64 (a1 - 1))), t363)) = some (r1, r2) := H
  have A4 := Aside0.mk A40
  clear A40
  simp only [Option.some.injEq, Prod.mk.injEq] at H
  obtain ⟨rfl, rfl⟩ := H
  go_enter Try.func85, Try.ntmps85
  go_wp2_with (first | (go_at_call 72; (with_reducible refine (spec_l20Rd_pick.calls k g s0_0 s0_1 a1 t362 t363 w0 _ ?side1 ?side2 A4.out).mono ?_); (case side1 => repeat (first | (with_reducible first | exact HI0.out | apply IsS90.alloc | apply IsS90.drewN | apply IsS90.drew | apply IsS90.set_1) | exact HI0.out)); (case side2 => repeat (first | (with_reducible first | exact HB.out | apply below_alloc | apply pw_below_drewN | apply below_drew1 | refine below_set ?_ (IsS90.ge HI0.out)) | exact HB.out)); rintro e w5 ⟨rfl, hi, hb, hk⟩; have n0_ := Aside0.mk (KeepBut.trans (by repeat (first | (with_reducible first | exact HK.out | apply KeepBut.set_ | apply keep_drewN | apply keep_drew | apply keep_alloc) | exact HK.out)) hk (.inl rfl)); have n1_ := Aside0.mk (hb); have n2_ := Aside0.mk (hi); clear HK; clear HB; clear HI0; have HK := n0_; have HB := n1_; have HI0 := n2_; clear n0_ n1_ n2_))
  go_ret
  exact ⟨by first | rfl | (simp [errW_none, errW_some] <;> rfl) | (simp [*, errW_none, errW_some] <;> rfl), by repeat (first | (with_reducible first | exact HI0.out | apply IsS90.alloc | apply IsS90.drewN | apply IsS90.drew | apply IsS90.set_1) | exact HI0.out), by repeat (first | (with_reducible first | exact HB.out | apply below_alloc | apply pw_below_drewN | apply below_drew1 | refine below_set ?_ (IsS90.ge HI0.out)) | exact HB.out), by repeat (first | (with_reducible first | exact HK.out | apply KeepBut.set_ | apply keep_drewN | apply keep_drew | apply keep_alloc) | exact HK.out)⟩
 ·rw [if_neg c3] at H
  have c3b0 : decide (0 < a1) = false := decide_eq_false c3
  clear c3
  simp only [Option.some.injEq, Prod.mk.injEq] at H
  obtain ⟨rfl, rfl⟩ := H
  go_enter Try.func85, Try.ntmps85
  go_wp2
  go_ret
  exact ⟨by first | rfl | (simp [errW_none, errW_some] <;> rfl) | (simp [*, errW_none, errW_some] <;> rfl), by repeat (first | (with_reducible first | exact HI0.out | apply IsS90.alloc | apply IsS90.drewN | apply IsS90.drew | apply IsS90.set_1) | exact HI0.out), by repeat (first | (with_reducible first | exact HB.out | apply below_alloc | apply pw_below_drewN | apply below_drew1 | refine below_set ?_ (IsS90.ge HI0.out)) | exact HB.out), by repeat (first | (with_reducible first | exact HK.out | apply KeepBut.set_ | apply keep_drewN | apply keep_drew | apply keep_alloc) | exact HK.out)⟩

/-! ### spec_l20Urn: function 57 -/
def spec_l20Urn.l0 : Nat → Int → List Int → Int → List Int → Int → Option (List Int × Int)
 | 0, _, _, _, _, _ => none
 | k + 1, x1, x5, x6, x1000, x1001 => if x6 > 0 then ((spec_l20Rd_pick.f k x1000 x1001 6).bind fun bt369 => (if x5.length < 17592186044416 then (spec_l20Urn.l0 k x1 (x5 ++ [bt369.1]) (wrap64 (x6 - 1)) x1000 bt369.2) else (none))) else ((spec_l20Rd_odd.f k x1000 x1001 x1).bind fun bt374 => (if bt374.1 = true then ((spec_l20Rd_pick.f k x1000 bt374.2 3).bind fun bt376 => (if bt376.1 = 0 then (some ((([] : List Int)), bt376.2)) else (if bt376.1 = 1 then ((some (([(-1), 41] : List Int) : List Int)).bind fun y381 => ((spec_l20Rd_pick.f k x1000 bt376.2 2).bind fun bt384 => (if 0 ≤ bt384.1 then (if bt384.1 < (y381.length : Int) then (if 0 < (x5.length : Int) then (some ((x5.set (0 : Int).toNat (rd y381 bt384.1)), bt384.2)) else (none)) else (none)) else (none)))) else (some ((([1, 1, 1, 1] : List Int)), bt376.2))))) else (some (x5, bt374.2))))
def spec_l20Urn.f (k : Nat) (s0_0 : List Int) (s0_1 : Int) (a1 : Int) : Option (List Int × Int) := (spec_l20Rd_pick.f k s0_0 s0_1 3).bind fun bt367 => (spec_l20Urn.l0 k a1 (([] : List Int)) (wrap64 (1 + bt367.1)) s0_0 bt367.2)
set_option maxHeartbeats 8000000 in
set_option maxRecDepth 100000 in
theorem spec_l20Urn.calls (k : Nat) (g : Nat) (s0_0 : List Int) (s0_1 : Int) (a1 : Int) (r1 : List Int) (r2 : Int) (w0 w : World) (hI : IsS90 w0 w g s0_0 s0_1) (hB : Below w0.heap.size w0 w) (h : spec_l20Urn.f k s0_0 s0_1 a1 = some (r1, r2)) :
  Calls Try.prog 57 #[.pointer (some ⟨g, 0, none⟩), .int .i64 a1] w fun e w' => ∃ v0_ : Value, e = .returned (v0_) ∧ Kd.R (Kd.int .i64) 3 w' w.heap.size (fun _ => True) v0_ r1 ∧ IsS90 w0 w' g s0_0 r2 ∧ Below w0.heap.size w0 w' ∧ KeepBut w w' g none := by
 have HI0 := Aside0.mk hI
 have HK := Aside0.mk (KeepBut.refl w g none)
 have HL := Aside0.mk hB.size
 clear hI
 have HW0 := Aside0.mk hB.size
 have HB := Aside0.mk hB
 clear hB
 have H : ((spec_l20Rd_pick.f k s0_0 s0_1 3).bind fun bt367 => (spec_l20Urn.l0 k a1 (([] : List Int)) (wrap64 (1 + bt367.1)) s0_0 bt367.2)) = some (r1, r2) := h
 clear h
 obtain ⟨y364, hy364⟩ : ∃ y_ : List Int, y_ = (([] : List Int)) := ⟨_, rfl⟩
 replace H : ((spec_l20Rd_pick.f k s0_0 s0_1 3).bind fun bt367 => (spec_l20Urn.l0 k a1 y364 (wrap64 (1 + bt367.1)) s0_0 bt367.2)) = some (r1, r2) := by first | (rw [hy364]; with_reducible exact H) | (have H2_ := (Option.bind_some _ _).symm.trans H; rw [hy364]; with_reducible exact H2_) | (have H2_ := (Option.bind_some _ _).symm.trans H; with_reducible exact H2_) | with_reducible exact H | (rw [hy364]; exact H) | exact H
 have Ny364 := Aside0.mk hy364
 clear hy364
 replace H := Option.bind_eq_some_iff.mp H
 obtain ⟨⟨t367, t368⟩, A30, H⟩ := H
 replace H : (spec_l20Urn.l0 k a1 y364 (wrap64 (1 + t367)) s0_0 t368) = some (r1, r2) := H
 have A3 := Aside0.mk A30
 clear A30
 have H' := Aside0.mk H
 clear H
 go_enter Try.func57, Try.ntmps57
 go_wp2_with (first | ((with_reducible refine gate_dst (N := 7) rfl ?_); refine Kd.R_lit (Kd.int .i64) _ 3 ?hg (N := 7) ?hd (xs := ([] : List Int)) (inner := []) (ok := fun _ => True) (okp := fun _ => True) ?hr ?hp (fun _ hk => hk) trivial (Below.refl _ _) (Nat.le_refl _) (by simp) ?_; (case hd => rfl); (case hg => rfl); (case hr => first | (go_simp; done) | (go_simp; rfl)); (case hp => exact (Reps.none _ _)); intro v365 w4 ho5 hb hg_ hnew_; clear hg_ hnew_; (first | rw [← Ny364.out] at ho5 | (simp only [Int.reduceToNat] at ho5; rw [← Ny364.out] at ho5)); have n0_ := Aside0.mk (Kd.R_lower ho5 (keep_size (w := w) (g := g) (row := none) (by repeat (first | (with_reducible first | exact HK.out | apply KeepBut.set_ | apply keep_drewN | apply keep_drew | apply keep_alloc) | exact HK.out)))); have n1_ := Aside0.mk (IsS90.below (by repeat (first | (with_reducible first | exact HI0.out | apply IsS90.alloc | apply IsS90.drewN | apply IsS90.drew | apply IsS90.set_1) | exact HI0.out)) hb); have n2_ := Aside0.mk (KeepBut.trans (by repeat (first | (with_reducible first | exact HK.out | apply KeepBut.set_ | apply keep_drewN | apply keep_drew | apply keep_alloc) | exact HK.out)) (KeepBut.of_below hb g none) (.inl rfl)); have n3_ := Aside0.mk (below_step (by repeat (first | (with_reducible first | exact HB.out | apply below_alloc | apply pw_below_drewN | apply below_drew1 | refine below_set ?_ (IsS90.ge HI0.out)) | exact HB.out)) hb); clear HI0; clear HK; clear HB; have HO366 := n0_; have HI0 := n1_; have HK := n2_; have HB := n3_; clear n0_ n1_ n2_ n3_; clear hb ho5) | ((with_reducible refine gate_callee (f := 72) rfl ?_); refine goesL_ (some 9) rfl rfl Try.func72 (by kernel_rfl) rfl #[.pointer (some ⟨g, 0, none⟩), .int .i64 3] rfl (by (try simp only [List.map_toArray, List.map_cons, List.map_nil]); first | done | rfl) ?_; (with_reducible refine (spec_l20Rd_pick.calls k g s0_0 s0_1 3 t367 t368 w0 _ ?side1 ?side2 A3.out).mono ?_); (case side1 => repeat (first | (with_reducible first | exact HI0.out | apply IsS90.alloc | apply IsS90.drewN | apply IsS90.drew | apply IsS90.set_1) | exact HI0.out)); (case side2 => repeat (first | (with_reducible first | exact HB.out | apply below_alloc | apply pw_below_drewN | apply below_drew1 | refine below_set ?_ (IsS90.ge HI0.out)) | exact HB.out)); rintro e w6 ⟨rfl, hi, hb, hk⟩; refine ⟨_, rfl, ?_⟩; have n0_ := Aside0.mk (Kd.R_mono (Kd.R_keep (IsS90.apart (show IsS90 w0 _ g s0_0 s0_1 from by repeat (first | (with_reducible first | exact HI0.out | apply IsS90.alloc | apply IsS90.drewN | apply IsS90.drew | apply IsS90.set_1) | exact HI0.out)) (by (with_reducible repeat (first | apply Kd.R_alloc | apply Kd.R_drewN | apply Kd.R_drew)); exact HO366.out) (by decide)) hk (fun _ h => h.2)) (fun _ h => h.1)); have n1_ := Aside0.mk (KeepBut.trans (by repeat (first | (with_reducible first | exact HK.out | apply KeepBut.set_ | apply keep_drewN | apply keep_drew | apply keep_alloc) | exact HK.out)) hk (.inl rfl)); have n2_ := Aside0.mk (hb); have n3_ := Aside0.mk (hi); clear HO366; clear HK; clear HB; clear HI0; have HO366 := n0_; have HK := n1_; have HB := n2_; have HI0 := n3_; clear n0_ n1_ n2_ n3_))
 go_loopg [5, 6] k (fun kq v5 v6 w' => ∃ (x5_1 : List Int) (x6_1 : Int) (x1001_1 : Int), v6 = .int .i64 x6_1 ∧ Aside0 (spec_l20Urn.l0 kq a1 x5_1 x6_1 s0_0 x1001_1 = some (r1, r2)) ∧ Aside0 (kq ≤ k) ∧ Aside0 (Kd.R (Kd.int .i64) 3 w' w.heap.size (fun _ => True) v5 x5_1) ∧ Aside0 (IsS90 w0 w' g s0_0 x1001_1) ∧ Aside0 (KeepBut w w' g none) ∧ Aside0 (Below w0.heap.size w0 w'))
 case atStart => exact ⟨(y364), (wrap64 (1 + t367)), (t368), (by first | rfl | (simp; done) | (simp [*]; done)), H', ⟨Nat.le_refl _⟩, ⟨by (with_reducible repeat (first | apply Kd.R_alloc | apply Kd.R_drewN | apply Kd.R_drew)); exact HO366.out⟩, ⟨by repeat (first | (with_reducible first | exact HI0.out | apply IsS90.alloc | apply IsS90.drewN | apply IsS90.drew | apply IsS90.set_1) | exact HI0.out)⟩, ⟨by repeat (first | (with_reducible first | exact HK.out | apply KeepBut.set_ | apply keep_drewN | apply keep_drew | apply keep_alloc) | exact HK.out)⟩, ⟨by repeat (first | (with_reducible first | exact HB.out | apply below_alloc | apply pw_below_drewN | apply below_drew1 | refine below_set ?_ (IsS90.ge HI0.out)) | exact HB.out)⟩⟩
 case round =>
  clear H'
  try clear p2
  try clear c5
  try clear p6
  obtain ⟨x5_1, x6_1, x1001_1, rfl, HA, HK1, HO_5, HI0, HK, HB⟩ := hrel
  cases gk with
  | zero => exact absurd HA.out (by simp [spec_l20Urn.l0])
  | succ k1 =>
   have H := HA.out
   clear HA
   simp only [spec_l20Urn.l0] at H
   by_cases c7 : x6_1 > 0
   ·rw [if_pos c7] at H
    have c7b0 : decide (0 < x6_1) = true := decide_eq_true c7
    clear c7
    replace H := Option.bind_eq_some_iff.mp H
    obtain ⟨⟨t369, t370⟩, A80, H⟩ := H
    replace H : (if x5_1.length < 17592186044416 then (spec_l20Urn.l0 k1 a1 (x5_1 ++ [t369]) (wrap64 (x6_1 - 1)) s0_0 t370) else (none)) = some (r1, r2) := H
    have A8 := Aside0.mk A80
    clear A80
    by_cases c9 : x5_1.length < 17592186044416
    ·rw [if_pos c9] at H
     have LMc9 := Aside0.mk c9
     clear c9
     obtain ⟨y371, hy371⟩ : ∃ y_ : List Int, y_ = (x5_1 ++ [t369]) := ⟨_, rfl⟩
     replace H : (spec_l20Urn.l0 k1 a1 y371 (wrap64 (x6_1 - 1)) s0_0 t370) = some (r1, r2) := by first | (rw [hy371]; with_reducible exact H) | (have H2_ := (Option.bind_some _ _).symm.trans H; rw [hy371]; with_reducible exact H2_) | (have H2_ := (Option.bind_some _ _).symm.trans H; with_reducible exact H2_) | with_reducible exact H | (rw [hy371]; exact H) | exact H
     have Ny371 := Aside0.mk hy371
     clear hy371
     have H' := Aside0.mk H
     clear H
     go_wp2_with (first | ((with_reducible refine gate_callee (f := 72) rfl ?_); refine goesL_ (some 17) rfl rfl Try.func72 (by kernel_rfl) rfl #[.pointer (some ⟨g, 0, none⟩), .int .i64 6] rfl (by (try simp only [List.map_toArray, List.map_cons, List.map_nil]); first | done | rfl) ?_; (with_reducible refine (spec_l20Rd_pick.calls k1 g s0_0 x1001_1 6 t369 t370 w0 _ ?side1 ?side2 A8.out).mono ?_); (case side1 => repeat (first | (with_reducible first | exact HI0.out | apply IsS90.alloc | apply IsS90.drewN | apply IsS90.drew | apply IsS90.set_1) | exact HI0.out)); (case side2 => repeat (first | (with_reducible first | exact HB.out | apply below_alloc | apply pw_below_drewN | apply below_drew1 | refine below_set ?_ (IsS90.ge HI0.out)) | exact HB.out)); rintro e w10 ⟨rfl, hi, hb, hk⟩; refine ⟨_, rfl, ?_⟩; have n0_ := Aside0.mk (Kd.R_mono (Kd.R_keep (IsS90.apart (show IsS90 w0 _ g s0_0 x1001_1 from by repeat (first | (with_reducible first | exact HI0.out | apply IsS90.alloc | apply IsS90.drewN | apply IsS90.drew | apply IsS90.set_1) | exact HI0.out)) (by (with_reducible repeat (first | apply Kd.R_alloc | apply Kd.R_drewN | apply Kd.R_drew)); exact HO_5.out) (by decide)) hk (fun _ h => h.2)) (fun _ h => h.1)); have n1_ := Aside0.mk (KeepBut.trans (by repeat (first | (with_reducible first | exact HK.out | apply KeepBut.set_ | apply keep_drewN | apply keep_drew | apply keep_alloc) | exact HK.out)) hk (.inl rfl)); have n2_ := Aside0.mk (hb); have n3_ := Aside0.mk (hi); clear HO_5; clear HK; clear HB; clear HI0; have HO_5 := n0_; have HK := n1_; have HB := n2_; have HI0 := n3_; clear n0_ n1_ n2_ n3_) | ((with_reducible refine gate_builtin (b := .append) (xs := #[.tmp 15, .tmp 18]) rfl ?_); at_builtin; refine Kd.R_append (Kd.int .i64) w.heap.size rfl (.tmp 15) (.tmp 18) 22 3 (.int .i64 0) 8 rfl Try.underlying22 info3 rfl (by decide) (by omega) u5 x5_1 t369 [.int .i64 t369] (fun _ => True) (fun _ => False) rfl rfl ?aP (fun _ hk => hk.elim) ?aF ?aO (Below.refl _ _) ?aS ?aL ?_; (case aP => exact rfl); (case aF => exact (fun _ _ => trivial)); (case aO => exact (by (with_reducible repeat (first | apply Kd.R_alloc | apply Kd.R_drewN | apply Kd.R_drew)); exact HO_5.out)); (case aS => exact (keep_size (w := w) (g := g) (row := none) (by repeat (first | (with_reducible first | exact HK.out | apply KeepBut.set_ | apply keep_drewN | apply keep_drew | apply keep_alloc) | exact HK.out)))); (case aL => have := LMc9.out; omega); intro v372 w11 ho hb hg hat; rw [← Ny371.out] at ho; have n0_ := Aside0.mk (IsS90.grown (by repeat (first | (with_reducible first | exact HI0.out | apply IsS90.alloc | apply IsS90.drewN | apply IsS90.drew | apply IsS90.set_1) | exact HI0.out)) hg (IsS90.own_ne HI0.out HO_5.out (by decide))); have n1_ := Aside0.mk (below_weaken (by repeat (first | (with_reducible first | exact HB.out | apply below_alloc | apply pw_below_drewN | apply below_drew1 | refine below_set ?_ (IsS90.ge HI0.out)) | exact HB.out)) HL.out hb); have n2_ := Aside0.mk (KeepBut.trans (by repeat (first | (with_reducible first | exact HK.out | apply KeepBut.set_ | apply keep_drewN | apply keep_drew | apply keep_alloc) | exact HK.out)) (KeepBut.of_grown hg g) (Kd.R_base2 HO_5.out)); have n3_ := Aside0.mk (ho); clear HI0; clear HB; clear HK; clear HO_5; have HI0 := n0_; have HB := n1_; have HK := n2_; have HO373 := n3_; clear n0_ n1_ n2_ n3_; clear ho hb hg hat))
     go_roundg k1
     case measure => have := HK1.out; omega
     case rel => exact ⟨(y371), (wrap64 (x6_1 - 1)), (t370), (by first | rfl | (simp; done) | (simp [*]; done)), H', ⟨by have := HK1.out; omega⟩, ⟨by (with_reducible repeat (first | apply Kd.R_alloc | apply Kd.R_drewN | apply Kd.R_drew)); exact HO373.out⟩, ⟨by repeat (first | (with_reducible first | exact HI0.out | apply IsS90.alloc | apply IsS90.drewN | apply IsS90.drew | apply IsS90.set_1) | exact HI0.out)⟩, ⟨by repeat (first | (with_reducible first | exact HK.out | apply KeepBut.set_ | apply keep_drewN | apply keep_drew | apply keep_alloc) | exact HK.out)⟩, ⟨by repeat (first | (with_reducible first | exact HB.out | apply below_alloc | apply pw_below_drewN | apply below_drew1 | refine below_set ?_ (IsS90.ge HI0.out)) | exact HB.out)⟩⟩
    ·rw [if_neg c9] at H
     exact absurd H (by simp)
   ·rw [if_neg c7] at H
    have c7b0 : decide (0 < x6_1) = false := decide_eq_false c7
    clear c7
    replace H := Option.bind_eq_some_iff.mp H
    obtain ⟨⟨t374, t375⟩, A120, H⟩ := H
    replace H : (if t374 = true then ((spec_l20Rd_pick.f k1 s0_0 t375 3).bind fun bt376 => (if bt376.1 = 0 then (some ((([] : List Int)), bt376.2)) else (if bt376.1 = 1 then ((some (([(-1), 41] : List Int) : List Int)).bind fun y381 => ((spec_l20Rd_pick.f k1 s0_0 bt376.2 2).bind fun bt384 => (if 0 ≤ bt384.1 then (if bt384.1 < (y381.length : Int) then (if 0 < (x5_1.length : Int) then (some ((x5_1.set (0 : Int).toNat (rd y381 bt384.1)), bt384.2)) else (none)) else (none)) else (none)))) else (some ((([1, 1, 1, 1] : List Int)), bt376.2))))) else (some (x5_1, t375))) = some (r1, r2) := H
    have A12 := Aside0.mk A120
    clear A120
    by_cases c13 : t374 = true
    ·subst c13
     have H1 : ((spec_l20Rd_pick.f k1 s0_0 t375 3).bind fun bt376 => (if bt376.1 = 0 then (some ((([] : List Int)), bt376.2)) else (if bt376.1 = 1 then ((some (([(-1), 41] : List Int) : List Int)).bind fun y381 => ((spec_l20Rd_pick.f k1 s0_0 bt376.2 2).bind fun bt384 => (if 0 ≤ bt384.1 then (if bt384.1 < (y381.length : Int) then (if 0 < (x5_1.length : Int) then (some ((x5_1.set (0 : Int).toNat (rd y381 bt384.1)), bt384.2)) else (none)) else (none)) else (none)))) else (some ((([1, 1, 1, 1] : List Int)), bt376.2))))) = some (r1, r2) := by rw [if_pos rfl] at H; exact H
     clear H
     have H := H1
     clear H1
     replace H := Option.bind_eq_some_iff.mp H
     obtain ⟨⟨t376, t377⟩, A140, H⟩ := H
     replace H : (if t376 = 0 then (some ((([] : List Int)), t377)) else (if t376 = 1 then ((some (([(-1), 41] : List Int) : List Int)).bind fun y381 => ((spec_l20Rd_pick.f k1 s0_0 t377 2).bind fun bt384 => (if 0 ≤ bt384.1 then (if bt384.1 < (y381.length : Int) then (if 0 < (x5_1.length : Int) then (some ((x5_1.set (0 : Int).toNat (rd y381 bt384.1)), bt384.2)) else (none)) else (none)) else (none)))) else (some ((([1, 1, 1, 1] : List Int)), t377)))) = some (r1, r2) := H
     have A14 := Aside0.mk A140
     clear A140
     by_cases c15 : t376 = 0
     ·rw [if_pos c15] at H
      have c15b0 : (t376 == 0) = true := beq_iff_eq.mpr c15
      have c15b1 : (t376 != 0) = false := bne_eq_false_iff_eq.mpr c15
      clear c15
      obtain ⟨y378, hy378⟩ : ∃ y_ : List Int, y_ = (([] : List Int)) := ⟨_, rfl⟩
      replace H : (some (y378, t377)) = some (r1, r2) := by first | (rw [hy378]; with_reducible exact H) | (have H2_ := (Option.bind_some _ _).symm.trans H; rw [hy378]; with_reducible exact H2_) | (have H2_ := (Option.bind_some _ _).symm.trans H; with_reducible exact H2_) | with_reducible exact H | (rw [hy378]; exact H) | exact H
      have Ny378 := Aside0.mk hy378
      clear hy378
      simp only [Option.some.injEq, Prod.mk.injEq] at H
      obtain ⟨rfl, rfl⟩ := H
      go_wp2_with (first | ((with_reducible refine gate_callee (f := 85) rfl ?_); refine goesL_ (some 22) rfl rfl Try.func85 (by kernel_rfl) rfl #[.pointer (some ⟨g, 0, none⟩), .int .i64 a1] rfl (by (try simp only [List.map_toArray, List.map_cons, List.map_nil]); first | done | rfl) ?_; (with_reducible refine (spec_l20Rd_odd.calls k1 g s0_0 x1001_1 a1 true t375 w0 _ ?side1 ?side2 A12.out).mono ?_); (case side1 => repeat (first | (with_reducible first | exact HI0.out | apply IsS90.alloc | apply IsS90.drewN | apply IsS90.drew | apply IsS90.set_1) | exact HI0.out)); (case side2 => repeat (first | (with_reducible first | exact HB.out | apply below_alloc | apply pw_below_drewN | apply below_drew1 | refine below_set ?_ (IsS90.ge HI0.out)) | exact HB.out)); rintro e w16 ⟨rfl, hi, hb, hk⟩; refine ⟨_, rfl, ?_⟩; have n0_ := Aside0.mk (Kd.R_mono (Kd.R_keep (IsS90.apart (show IsS90 w0 _ g s0_0 x1001_1 from by repeat (first | (with_reducible first | exact HI0.out | apply IsS90.alloc | apply IsS90.drewN | apply IsS90.drew | apply IsS90.set_1) | exact HI0.out)) (by (with_reducible repeat (first | apply Kd.R_alloc | apply Kd.R_drewN | apply Kd.R_drew)); exact HO_5.out) (by decide)) hk (fun _ h => h.2)) (fun _ h => h.1)); have n1_ := Aside0.mk (KeepBut.trans (by repeat (first | (with_reducible first | exact HK.out | apply KeepBut.set_ | apply keep_drewN | apply keep_drew | apply keep_alloc) | exact HK.out)) hk (.inl rfl)); have n2_ := Aside0.mk (hb); have n3_ := Aside0.mk (hi); clear HO_5; clear HK; clear HB; clear HI0; have HO_5 := n0_; have HK := n1_; have HB := n2_; have HI0 := n3_; clear n0_ n1_ n2_ n3_) | ((with_reducible refine gate_callee (f := 72) rfl ?_); refine goesL_ (some 24) rfl rfl Try.func72 (by kernel_rfl) rfl #[.pointer (some ⟨g, 0, none⟩), .int .i64 3] rfl (by (try simp only [List.map_toArray, List.map_cons, List.map_nil]); first | done | rfl) ?_; (with_reducible refine (spec_l20Rd_pick.calls k1 g s0_0 t375 3 t376 t377 w0 _ ?side1 ?side2 A14.out).mono ?_); (case side1 => repeat (first | (with_reducible first | exact HI0.out | apply IsS90.alloc | apply IsS90.drewN | apply IsS90.drew | apply IsS90.set_1) | exact HI0.out)); (case side2 => repeat (first | (with_reducible first | exact HB.out | apply below_alloc | apply pw_below_drewN | apply below_drew1 | refine below_set ?_ (IsS90.ge HI0.out)) | exact HB.out)); rintro e w17 ⟨rfl, hi, hb, hk⟩; refine ⟨_, rfl, ?_⟩; have n0_ := Aside0.mk (Kd.R_mono (Kd.R_keep (IsS90.apart (show IsS90 w0 _ g s0_0 t375 from by repeat (first | (with_reducible first | exact HI0.out | apply IsS90.alloc | apply IsS90.drewN | apply IsS90.drew | apply IsS90.set_1) | exact HI0.out)) (by (with_reducible repeat (first | apply Kd.R_alloc | apply Kd.R_drewN | apply Kd.R_drew)); exact HO_5.out) (by decide)) hk (fun _ h => h.2)) (fun _ h => h.1)); have n1_ := Aside0.mk (KeepBut.trans (by repeat (first | (with_reducible first | exact HK.out | apply KeepBut.set_ | apply keep_drewN | apply keep_drew | apply keep_alloc) | exact HK.out)) hk (.inl rfl)); have n2_ := Aside0.mk (hb); have n3_ := Aside0.mk (hi); clear HO_5; clear HK; clear HB; clear HI0; have HO_5 := n0_; have HK := n1_; have HB := n2_; have HI0 := n3_; clear n0_ n1_ n2_ n3_) | ((with_reducible refine gate_dst (N := 28) rfl ?_); refine Kd.R_lit (Kd.int .i64) _ 3 ?hg (N := 28) ?hd (xs := ([] : List Int)) (inner := []) (ok := fun _ => True) (okp := fun _ => True) ?hr ?hp (fun _ hk => hk) trivial (Below.refl _ _) (Nat.le_refl _) (by simp) ?_; (case hd => rfl); (case hg => rfl); (case hr => first | (go_simp; done) | (go_simp; rfl)); (case hp => exact (Reps.none _ _)); intro v379 w18 ho19 hb hg_ hnew_; clear hg_ hnew_; (first | rw [← Ny378.out] at ho19 | (simp only [Int.reduceToNat] at ho19; rw [← Ny378.out] at ho19)); have n0_ := Aside0.mk (Kd.R_elder' (by (with_reducible repeat (first | apply Kd.R_alloc | apply Kd.R_drewN | apply Kd.R_drew)); exact HO_5.out) (Kd.R_base ho19) hb); have n1_ := Aside0.mk (Kd.R_lower (Kd.R_new' ho19 (Kd.R_lt (by (with_reducible repeat (first | apply Kd.R_alloc | apply Kd.R_drewN | apply Kd.R_drew)); exact HO_5.out))) (keep_size (w := w) (g := g) (row := none) (by repeat (first | (with_reducible first | exact HK.out | apply KeepBut.set_ | apply keep_drewN | apply keep_drew | apply keep_alloc) | exact HK.out)))); have n2_ := Aside0.mk (IsS90.below (by repeat (first | (with_reducible first | exact HI0.out | apply IsS90.alloc | apply IsS90.drewN | apply IsS90.drew | apply IsS90.set_1) | exact HI0.out)) hb); have n3_ := Aside0.mk (KeepBut.trans (by repeat (first | (with_reducible first | exact HK.out | apply KeepBut.set_ | apply keep_drewN | apply keep_drew | apply keep_alloc) | exact HK.out)) (KeepBut.of_below hb g none) (.inl rfl)); have n4_ := Aside0.mk (below_step (by repeat (first | (with_reducible first | exact HB.out | apply below_alloc | apply pw_below_drewN | apply below_drew1 | refine below_set ?_ (IsS90.ge HI0.out)) | exact HB.out)) hb); clear HO_5; clear HI0; clear HK; clear HB; have HO_5 := n0_; have HO380 := n1_; have HI0 := n2_; have HK := n3_; have HB := n4_; clear n0_ n1_ n2_ n3_ n4_; clear hb ho19))
      go_ret
      exact ⟨_, by first | rfl | (simp [errW_none, errW_some] <;> rfl) | (simp [*, errW_none, errW_some] <;> rfl), by (with_reducible repeat (first | apply Kd.R_alloc | apply Kd.R_drewN | apply Kd.R_drew)); exact Kd.R_mono HO380.out (fun _ hk => trivial), by repeat (first | (with_reducible first | exact HI0.out | apply IsS90.alloc | apply IsS90.drewN | apply IsS90.drew | apply IsS90.set_1) | exact HI0.out), by repeat (first | (with_reducible first | exact HB.out | apply below_alloc | apply pw_below_drewN | apply below_drew1 | refine below_set ?_ (IsS90.ge HI0.out)) | exact HB.out), by repeat (first | (with_reducible first | exact HK.out | apply KeepBut.set_ | apply keep_drewN | apply keep_drew | apply keep_alloc) | exact HK.out)⟩
     ·rw [if_neg c15] at H
      have c15b0 : (t376 == 0) = false := beq_eq_false_iff_ne.mpr c15
      have c15b1 : (t376 != 0) = true := bne_iff_ne.mpr c15
      by_cases c20 : t376 = 1
      ·rw [if_pos c20] at H
       have c20b0 : (t376 == 1) = true := beq_iff_eq.mpr c20
       have c20b1 : (t376 != 1) = false := bne_eq_false_iff_eq.mpr c20
       clear c20
       obtain ⟨y381, hy381⟩ : ∃ y_ : List Int, y_ = (([(-1), 41] : List Int)) := ⟨_, rfl⟩
       replace H : ((spec_l20Rd_pick.f k1 s0_0 t377 2).bind fun bt384 => (if 0 ≤ bt384.1 then (if bt384.1 < (y381.length : Int) then (if 0 < (x5_1.length : Int) then (some ((x5_1.set (0 : Int).toNat (rd y381 bt384.1)), bt384.2)) else (none)) else (none)) else (none))) = some (r1, r2) := by first | (rw [hy381]; with_reducible exact H) | (have H2_ := (Option.bind_some _ _).symm.trans H; rw [hy381]; with_reducible exact H2_) | (have H2_ := (Option.bind_some _ _).symm.trans H; with_reducible exact H2_) | with_reducible exact H | (rw [hy381]; exact H) | exact H
       have Ny381 := Aside0.mk hy381
       clear hy381
       replace H := Option.bind_eq_some_iff.mp H
       obtain ⟨⟨t384, t385⟩, A210, H⟩ := H
       replace H : (if 0 ≤ t384 then (if t384 < (y381.length : Int) then (if 0 < (x5_1.length : Int) then (some ((x5_1.set (0 : Int).toNat (rd y381 t384)), t385)) else (none)) else (none)) else (none)) = some (r1, r2) := H
       have A21 := Aside0.mk A210
       clear A210
       by_cases c22 : 0 ≤ t384
       ·rw [if_pos c22] at H
        have c22b0 : decide (0 ≤ t384) = true := decide_eq_true c22
        clear c22
        by_cases c23 : t384 < (y381.length : Int)
        ·rw [if_pos c23] at H
         have c23b0 : decide (t384 < (y381.length : Int)) = true := decide_eq_true c23
         clear c23
         by_cases c24 : 0 < (x5_1.length : Int)
         ·rw [if_pos c24] at H
          have c24b0 : decide (0 < (x5_1.length : Int)) = true := decide_eq_true c24
          have c24b1 : decide (0 < x5_1.length) = true := decide_eq_true (by omega)
          clear c24
          obtain ⟨y387, hy387⟩ : ∃ y_ : List Int, y_ = (x5_1.set (0 : Int).toNat (rd y381 t384)) := ⟨_, rfl⟩
          replace H : (some (y387, t385)) = some (r1, r2) := by first | (rw [hy387]; with_reducible exact H) | (have H2_ := (Option.bind_some _ _).symm.trans H; rw [hy387]; with_reducible exact H2_) | (have H2_ := (Option.bind_some _ _).symm.trans H; with_reducible exact H2_) | with_reducible exact H | (rw [hy387]; exact H) | exact H
          have Ny387 := Aside0.mk hy387
          have hyly387 := Aside0.mk (show y387.length = x5_1.length by rw [hy387]; exact List.length_set)
          clear hy387
          simp only [Option.some.injEq, Prod.mk.injEq] at H
          obtain ⟨rfl, rfl⟩ := H
          go_wp2_with (first | ((with_reducible refine gate_callee (f := 85) rfl ?_); refine goesL_ (some 22) rfl rfl Try.func85 (by kernel_rfl) rfl #[.pointer (some ⟨g, 0, none⟩), .int .i64 a1] rfl (by (try simp only [List.map_toArray, List.map_cons, List.map_nil]); first | done | rfl) ?_; (with_reducible refine (spec_l20Rd_odd.calls k1 g s0_0 x1001_1 a1 true t375 w0 _ ?side1 ?side2 A12.out).mono ?_); (case side1 => repeat (first | (with_reducible first | exact HI0.out | apply IsS90.alloc | apply IsS90.drewN | apply IsS90.drew | apply IsS90.set_1) | exact HI0.out)); (case side2 => repeat (first | (with_reducible first | exact HB.out | apply below_alloc | apply pw_below_drewN | apply below_drew1 | refine below_set ?_ (IsS90.ge HI0.out)) | exact HB.out)); rintro e w26 ⟨rfl, hi, hb, hk⟩; refine ⟨_, rfl, ?_⟩; have n0_ := Aside0.mk (Kd.R_mono (Kd.R_keep (IsS90.apart (show IsS90 w0 _ g s0_0 x1001_1 from by repeat (first | (with_reducible first | exact HI0.out | apply IsS90.alloc | apply IsS90.drewN | apply IsS90.drew | apply IsS90.set_1) | exact HI0.out)) (by (with_reducible repeat (first | apply Kd.R_alloc | apply Kd.R_drewN | apply Kd.R_drew)); exact HO_5.out) (by decide)) hk (fun _ h => h.2)) (fun _ h => h.1)); have n1_ := Aside0.mk (KeepBut.trans (by repeat (first | (with_reducible first | exact HK.out | apply KeepBut.set_ | apply keep_drewN | apply keep_drew | apply keep_alloc) | exact HK.out)) hk (.inl rfl)); have n2_ := Aside0.mk (hb); have n3_ := Aside0.mk (hi); clear HO_5; clear HK; clear HB; clear HI0; have HO_5 := n0_; have HK := n1_; have HB := n2_; have HI0 := n3_; clear n0_ n1_ n2_ n3_) | ((with_reducible refine gate_callee (f := 72) rfl ?_); refine goesL_ (some 24) rfl rfl Try.func72 (by kernel_rfl) rfl #[.pointer (some ⟨g, 0, none⟩), .int .i64 3] rfl (by (try simp only [List.map_toArray, List.map_cons, List.map_nil]); first | done | rfl) ?_; (with_reducible refine (spec_l20Rd_pick.calls k1 g s0_0 t375 3 t376 t377 w0 _ ?side1 ?side2 A14.out).mono ?_); (case side1 => repeat (first | (with_reducible first | exact HI0.out | apply IsS90.alloc | apply IsS90.drewN | apply IsS90.drew | apply IsS90.set_1) | exact HI0.out)); (case side2 => repeat (first | (with_reducible first | exact HB.out | apply below_alloc | apply pw_below_drewN | apply below_drew1 | refine below_set ?_ (IsS90.ge HI0.out)) | exact HB.out)); rintro e w27 ⟨rfl, hi, hb, hk⟩; refine ⟨_, rfl, ?_⟩; have n0_ := Aside0.mk (Kd.R_mono (Kd.R_keep (IsS90.apart (show IsS90 w0 _ g s0_0 t375 from by repeat (first | (with_reducible first | exact HI0.out | apply IsS90.alloc | apply IsS90.drewN | apply IsS90.drew | apply IsS90.set_1) | exact HI0.out)) (by (with_reducible repeat (first | apply Kd.R_alloc | apply Kd.R_drewN | apply Kd.R_drew)); exact HO_5.out) (by decide)) hk (fun _ h => h.2)) (fun _ h => h.1)); have n1_ := Aside0.mk (KeepBut.trans (by repeat (first | (with_reducible first | exact HK.out | apply KeepBut.set_ | apply keep_drewN | apply keep_drew | apply keep_alloc) | exact HK.out)) hk (.inl rfl)); have n2_ := Aside0.mk (hb); have n3_ := Aside0.mk (hi); clear HO_5; clear HK; clear HB; clear HI0; have HO_5 := n0_; have HK := n1_; have HB := n2_; have HI0 := n3_; clear n0_ n1_ n2_ n3_) | ((with_reducible refine gate_dst (N := 32) rfl ?_); refine Kd.R_lit (Kd.int .i64) _ 3 ?hg (N := 32) ?hd (xs := ([(-1), 41] : List Int)) (inner := [.int .i64 (-1), .int .i64 41]) (ok := fun _ => True) (okp := fun _ => True) ?hr ?hp (fun _ hk => hk) trivial (Below.refl _ _) (Nat.le_refl _) (by simp) ?_; (case hd => rfl); (case hg => rfl); (case hr => first | (go_simp; done) | (go_simp; rfl)); (case hp => exact (Reps.one (show Kd.M (Kd.int .i64) _ _ _ (-1) [.int .i64 (-1)] from rfl) (Reps.one (show Kd.M (Kd.int .i64) _ _ _ 41 [.int .i64 41] from rfl) (Reps.none _ _)))); intro v382 w28 ho29 hb hg_ hnew_; clear hg_ hnew_; (first | rw [← Ny381.out] at ho29 | (simp only [Int.reduceToNat] at ho29; rw [← Ny381.out] at ho29)); have n0_ := Aside0.mk (Kd.R_elder' (by (with_reducible repeat (first | apply Kd.R_alloc | apply Kd.R_drewN | apply Kd.R_drew)); exact HO_5.out) (Kd.R_base ho29) hb); have n1_ := Aside0.mk (Kd.R_lower (Kd.R_new' ho29 (Kd.R_lt (by (with_reducible repeat (first | apply Kd.R_alloc | apply Kd.R_drewN | apply Kd.R_drew)); exact HO_5.out))) (keep_size (w := w) (g := g) (row := none) (by repeat (first | (with_reducible first | exact HK.out | apply KeepBut.set_ | apply keep_drewN | apply keep_drew | apply keep_alloc) | exact HK.out)))); have n2_ := Aside0.mk (IsS90.below (by repeat (first | (with_reducible first | exact HI0.out | apply IsS90.alloc | apply IsS90.drewN | apply IsS90.drew | apply IsS90.set_1) | exact HI0.out)) hb); have n3_ := Aside0.mk (KeepBut.trans (by repeat (first | (with_reducible first | exact HK.out | apply KeepBut.set_ | apply keep_drewN | apply keep_drew | apply keep_alloc) | exact HK.out)) (KeepBut.of_below hb g none) (.inl rfl)); have n4_ := Aside0.mk (below_step (by repeat (first | (with_reducible first | exact HB.out | apply below_alloc | apply pw_below_drewN | apply below_drew1 | refine below_set ?_ (IsS90.ge HI0.out)) | exact HB.out)) hb); clear HO_5; clear HI0; clear HK; clear HB; have HO_5 := n0_; have HO383 := n1_; have HI0 := n2_; have HK := n3_; have HB := n4_; clear n0_ n1_ n2_ n3_ n4_; clear hb ho29) | ((with_reducible refine gate_callee (f := 72) rfl ?_); refine goesL_ (some 34) rfl rfl Try.func72 (by kernel_rfl) rfl #[.pointer (some ⟨g, 0, none⟩), .int .i64 2] rfl (by (try simp only [List.map_toArray, List.map_cons, List.map_nil]); first | done | rfl) ?_; (with_reducible refine (spec_l20Rd_pick.calls k1 g s0_0 t377 2 t384 t385 w0 _ ?side1 ?side2 A21.out).mono ?_); (case side1 => repeat (first | (with_reducible first | exact HI0.out | apply IsS90.alloc | apply IsS90.drewN | apply IsS90.drew | apply IsS90.set_1) | exact HI0.out)); (case side2 => repeat (first | (with_reducible first | exact HB.out | apply below_alloc | apply pw_below_drewN | apply below_drew1 | refine below_set ?_ (IsS90.ge HI0.out)) | exact HB.out)); rintro e w30 ⟨rfl, hi, hb, hk⟩; refine ⟨_, rfl, ?_⟩; have n0_ := Aside0.mk (Kd.R_mono (Kd.R_keep (IsS90.apart (show IsS90 w0 _ g s0_0 t377 from by repeat (first | (with_reducible first | exact HI0.out | apply IsS90.alloc | apply IsS90.drewN | apply IsS90.drew | apply IsS90.set_1) | exact HI0.out)) (by (with_reducible repeat (first | apply Kd.R_alloc | apply Kd.R_drewN | apply Kd.R_drew)); exact HO_5.out) (by decide)) hk (fun _ h => h.2)) (fun _ h => h.1)); have n1_ := Aside0.mk (Kd.R_mono (Kd.R_keep (IsS90.apart (show IsS90 w0 _ g s0_0 t377 from by repeat (first | (with_reducible first | exact HI0.out | apply IsS90.alloc | apply IsS90.drewN | apply IsS90.drew | apply IsS90.set_1) | exact HI0.out)) (by (with_reducible repeat (first | apply Kd.R_alloc | apply Kd.R_drewN | apply Kd.R_drew)); exact HO383.out) (by decide)) hk (fun _ h => h.2)) (fun _ h => h.1)); have n2_ := Aside0.mk (KeepBut.trans (by repeat (first | (with_reducible first | exact HK.out | apply KeepBut.set_ | apply keep_drewN | apply keep_drew | apply keep_alloc) | exact HK.out)) hk (.inl rfl)); have n3_ := Aside0.mk (hb); have n4_ := Aside0.mk (hi); clear HO_5; clear HO383; clear HK; clear HB; clear HI0; have HO_5 := n0_; have HO383 := n1_; have HK := n2_; have HB := n3_; have HI0 := n4_; clear n0_ n1_ n2_ n3_ n4_; obtain ⟨Ao31, co31, eo31⟩ := Kd.R_slice HO383.out; subst eo31; have p386 : 0 ≤ (t384 : Int) := of_decide_eq_true (by assumption); have q386 : t384 < (y381.length : Int) := of_decide_eq_true (by assumption); obtain ⟨ad386, e386, hx386_0⟩ := Kd.at_int (Kd.R_reads' HO383.out).2.2 t384 p386 q386; cases e386; replace p386 := eq_true p386; replace q386 := eq_true q386; have p25 : 0 ≤ (0 : Int) := (by omega); have q25 : (0 : Int) < ((x5_1.length : Int) : Int) := of_decide_eq_true (by assumption); have qi25 : (0 < x5_1.length) = True := eq_true (by omega); obtain ⟨go25, co25, eo25, gb25, gl25, cl25, HG25⟩ := Kd.R_form HO_5.out (by omega); (first | cases eo25 | (injection eo25 with ea_ en_ ec_; (first | subst ea_ | (injection ea_ with ea_; subst ea_)); subst ec_; clear en_)); have GB25 := Aside0.mk gb25; have GG25 := Aside0.mk HG25; clear gb25 gl25 HG25; obtain ⟨hx25_0, hf25_0⟩ := Kd.R_celln 0 HO_5.out (0 : Int) p25 q25; (try rw [show ((0 : Int)).toNat = 0 from rfl] at hx25_0); (try simp only [Nat.reduceMul, Nat.zero_mul, Nat.zero_add, Nat.reduceAdd] at hx25_0); (try rw [show ((0 : Int)).toNat = 0 from rfl] at hf25_0); (try simp only [Nat.reduceMul, Nat.zero_mul, Nat.zero_add, Nat.reduceAdd] at hf25_0); replace p25 := eq_true p25; replace q25 := eq_true q25; have n_ := Aside0.mk (Kd.R_mono (ok' := (fun k_ => some k_ ≠ (.slice (some ad386) y381.length co31 : Value).ownBlock)) HO_5.out (fun k_ hk => hk.2)); clear HO_5; have HO_5 := n_; clear n_; obtain ⟨hy32_, hz32_⟩ := Kd.R_celln 0 HO_5.out (0 : Int) (by omega) (of_decide_eq_true (by assumption)); (try simp only [Int.reduceToNat, Int.toNat_zero, Int.toNat_ofNat, Nat.reduceMul, Nat.zero_mul, Nat.zero_add] at hy32_ hz32_); (try rw [show ((0 : Int)).toNat = 0 from rfl] at hy32_); (try rw [show ((0 : Int)).toNat = 0 from rfl] at hz32_); have HP32 := Kd.R_putg HO_5.out (0 : Int) (rd y381 t384)) | ((with_reducible refine gate_store (t := 3) (p := 37) rfl ?_); refine store_event (t := 3) (p := 37) (v := ?vo_w33) (w1 := (w30.setCell ⟨go25, (0 : Int).toNat, none⟩ (.int .i64 (rd y381 t384)))) ?hg ?ho ?hn ?hr ?_; (case ho => rfl); (case hg => rfl); (case hn => rfl); (case hr => first | (go_simp; done) | (go_simp; rfl)); intro w33 hw; have hg : w30.grownBy w33 (some go25) := (by rw [hw]; exact HP32.2); have hp_ : Kd.R (Kd.int .i64) 3 w33 w.heap.size (fun k_ => some k_ ≠ (.slice (some ad386) y381.length co31 : Value).ownBlock) (.slice (some ⟨go25, 0, none⟩) x5_1.length co25) y387 := (by rw [hw, Ny387.out]; exact HP32.1); clear HP32; have n0_ := Aside0.mk (hp_); have n1_ := Aside0.mk (IsS90.grown (by repeat (first | (with_reducible first | exact HI0.out | apply IsS90.alloc | apply IsS90.drewN | apply IsS90.drew | apply IsS90.set_1) | exact HI0.out)) hg (IsS90.own_ne HI0.out HO_5.out (by decide))); have n2_ := Aside0.mk (Kd.R_after (v := (.slice (some ⟨go25, 0, none⟩) x5_1.length co25)) (v1 := (.slice (some ⟨go25, 0, none⟩) x5_1.length co25)) (ok := (fun _ => True)) (by (with_reducible repeat (first | apply Kd.R_alloc | apply Kd.R_drewN | apply Kd.R_drew)); exact HO383.out) hg (.inl rfl)); have n3_ := Aside0.mk ((by rw [hw]; exact below_set (HB.out) (Nat.le_trans HL.out GB25.out) : Below w0.heap.size w0 w33)); have n4_ := Aside0.mk (KeepBut.trans (by repeat (first | (with_reducible first | exact HK.out | apply KeepBut.set_ | apply keep_drewN | apply keep_drew | apply keep_alloc) | exact HK.out)) (KeepBut.of_grown hg g) (Kd.R_base2 HO_5.out)); clear HO_5; clear HI0; clear HO383; clear HB; clear HK; have HO_5 := n0_; have HI0 := n1_; have HO383 := n2_; have HB := n3_; have HK := n4_; clear n0_ n1_ n2_ n3_ n4_; clear hg hw hp_))
          go_ret
          exact ⟨_, by first | rfl | (simp [errW_none, errW_some] <;> rfl) | (simp [*, errW_none, errW_some] <;> rfl), by (with_reducible repeat (first | apply Kd.R_alloc | apply Kd.R_drewN | apply Kd.R_drew)); exact Kd.R_mono HO_5.out (fun _ hk => trivial), by repeat (first | (with_reducible first | exact HI0.out | apply IsS90.alloc | apply IsS90.drewN | apply IsS90.drew | apply IsS90.set_1) | exact HI0.out), by repeat (first | (with_reducible first | exact HB.out | apply below_alloc | apply pw_below_drewN | apply below_drew1 | refine below_set ?_ (IsS90.ge HI0.out)) | exact HB.out), by repeat (first | (with_reducible first | exact HK.out | apply KeepBut.set_ | apply keep_drewN | apply keep_drew | apply keep_alloc) | exact HK.out)⟩
         ·rw [if_neg c24] at H
          exact absurd H (by simp)
        ·rw [if_neg c23] at H
         exact absurd H (by simp)
       ·rw [if_neg c22] at H
        exact absurd H (by simp)
      ·rw [if_neg c20] at H
       have c20b0 : (t376 == 1) = false := beq_eq_false_iff_ne.mpr c20
       have c20b1 : (t376 != 1) = true := bne_iff_ne.mpr c20
       obtain ⟨y388, hy388⟩ : ∃ y_ : List Int, y_ = (([1, 1, 1, 1] : List Int)) := ⟨_, rfl⟩
       replace H : (some (y388, t377)) = some (r1, r2) := by first | (rw [hy388]; with_reducible exact H) | (have H2_ := (Option.bind_some _ _).symm.trans H; rw [hy388]; with_reducible exact H2_) | (have H2_ := (Option.bind_some _ _).symm.trans H; with_reducible exact H2_) | with_reducible exact H | (rw [hy388]; exact H) | exact H
       have Ny388 := Aside0.mk hy388
       clear hy388
       simp only [Option.some.injEq, Prod.mk.injEq] at H
       obtain ⟨rfl, rfl⟩ := H
       go_wp2_with (first | ((with_reducible refine gate_callee (f := 85) rfl ?_); refine goesL_ (some 22) rfl rfl Try.func85 (by kernel_rfl) rfl #[.pointer (some ⟨g, 0, none⟩), .int .i64 a1] rfl (by (try simp only [List.map_toArray, List.map_cons, List.map_nil]); first | done | rfl) ?_; (with_reducible refine (spec_l20Rd_odd.calls k1 g s0_0 x1001_1 a1 true t375 w0 _ ?side1 ?side2 A12.out).mono ?_); (case side1 => repeat (first | (with_reducible first | exact HI0.out | apply IsS90.alloc | apply IsS90.drewN | apply IsS90.drew | apply IsS90.set_1) | exact HI0.out)); (case side2 => repeat (first | (with_reducible first | exact HB.out | apply below_alloc | apply pw_below_drewN | apply below_drew1 | refine below_set ?_ (IsS90.ge HI0.out)) | exact HB.out)); rintro e w34 ⟨rfl, hi, hb, hk⟩; refine ⟨_, rfl, ?_⟩; have n0_ := Aside0.mk (Kd.R_mono (Kd.R_keep (IsS90.apart (show IsS90 w0 _ g s0_0 x1001_1 from by repeat (first | (with_reducible first | exact HI0.out | apply IsS90.alloc | apply IsS90.drewN | apply IsS90.drew | apply IsS90.set_1) | exact HI0.out)) (by (with_reducible repeat (first | apply Kd.R_alloc | apply Kd.R_drewN | apply Kd.R_drew)); exact HO_5.out) (by decide)) hk (fun _ h => h.2)) (fun _ h => h.1)); have n1_ := Aside0.mk (KeepBut.trans (by repeat (first | (with_reducible first | exact HK.out | apply KeepBut.set_ | apply keep_drewN | apply keep_drew | apply keep_alloc) | exact HK.out)) hk (.inl rfl)); have n2_ := Aside0.mk (hb); have n3_ := Aside0.mk (hi); clear HO_5; clear HK; clear HB; clear HI0; have HO_5 := n0_; have HK := n1_; have HB := n2_; have HI0 := n3_; clear n0_ n1_ n2_ n3_) | ((with_reducible refine gate_callee (f := 72) rfl ?_); refine goesL_ (some 24) rfl rfl Try.func72 (by kernel_rfl) rfl #[.pointer (some ⟨g, 0, none⟩), .int .i64 3] rfl (by (try simp only [List.map_toArray, List.map_cons, List.map_nil]); first | done | rfl) ?_; (with_reducible refine (spec_l20Rd_pick.calls k1 g s0_0 t375 3 t376 t377 w0 _ ?side1 ?side2 A14.out).mono ?_); (case side1 => repeat (first | (with_reducible first | exact HI0.out | apply IsS90.alloc | apply IsS90.drewN | apply IsS90.drew | apply IsS90.set_1) | exact HI0.out)); (case side2 => repeat (first | (with_reducible first | exact HB.out | apply below_alloc | apply pw_below_drewN | apply below_drew1 | refine below_set ?_ (IsS90.ge HI0.out)) | exact HB.out)); rintro e w35 ⟨rfl, hi, hb, hk⟩; refine ⟨_, rfl, ?_⟩; have n0_ := Aside0.mk (Kd.R_mono (Kd.R_keep (IsS90.apart (show IsS90 w0 _ g s0_0 t375 from by repeat (first | (with_reducible first | exact HI0.out | apply IsS90.alloc | apply IsS90.drewN | apply IsS90.drew | apply IsS90.set_1) | exact HI0.out)) (by (with_reducible repeat (first | apply Kd.R_alloc | apply Kd.R_drewN | apply Kd.R_drew)); exact HO_5.out) (by decide)) hk (fun _ h => h.2)) (fun _ h => h.1)); have n1_ := Aside0.mk (KeepBut.trans (by repeat (first | (with_reducible first | exact HK.out | apply KeepBut.set_ | apply keep_drewN | apply keep_drew | apply keep_alloc) | exact HK.out)) hk (.inl rfl)); have n2_ := Aside0.mk (hb); have n3_ := Aside0.mk (hi); clear HO_5; clear HK; clear HB; clear HI0; have HO_5 := n0_; have HK := n1_; have HB := n2_; have HI0 := n3_; clear n0_ n1_ n2_ n3_) | ((with_reducible refine gate_dst (N := 25) rfl ?_); refine Kd.R_lit (Kd.int .i64) _ 3 ?hg (N := 25) ?hd (xs := ([1, 1, 1, 1] : List Int)) (inner := [.int .i64 1, .int .i64 1, .int .i64 1, .int .i64 1]) (ok := fun _ => True) (okp := fun _ => True) ?hr ?hp (fun _ hk => hk) trivial (Below.refl _ _) (Nat.le_refl _) (by simp) ?_; (case hd => rfl); (case hg => rfl); (case hr => first | (go_simp; done) | (go_simp; rfl)); (case hp => exact (Reps.one (show Kd.M (Kd.int .i64) _ _ _ 1 [.int .i64 1] from rfl) (Reps.one (show Kd.M (Kd.int .i64) _ _ _ 1 [.int .i64 1] from rfl) (Reps.one (show Kd.M (Kd.int .i64) _ _ _ 1 [.int .i64 1] from rfl) (Reps.one (show Kd.M (Kd.int .i64) _ _ _ 1 [.int .i64 1] from rfl) (Reps.none _ _)))))); intro v389 w36 ho37 hb hg_ hnew_; clear hg_ hnew_; (first | rw [← Ny388.out] at ho37 | (simp only [Int.reduceToNat] at ho37; rw [← Ny388.out] at ho37)); have n0_ := Aside0.mk (Kd.R_elder' (by (with_reducible repeat (first | apply Kd.R_alloc | apply Kd.R_drewN | apply Kd.R_drew)); exact HO_5.out) (Kd.R_base ho37) hb); have n1_ := Aside0.mk (Kd.R_lower (Kd.R_new' ho37 (Kd.R_lt (by (with_reducible repeat (first | apply Kd.R_alloc | apply Kd.R_drewN | apply Kd.R_drew)); exact HO_5.out))) (keep_size (w := w) (g := g) (row := none) (by repeat (first | (with_reducible first | exact HK.out | apply KeepBut.set_ | apply keep_drewN | apply keep_drew | apply keep_alloc) | exact HK.out)))); have n2_ := Aside0.mk (IsS90.below (by repeat (first | (with_reducible first | exact HI0.out | apply IsS90.alloc | apply IsS90.drewN | apply IsS90.drew | apply IsS90.set_1) | exact HI0.out)) hb); have n3_ := Aside0.mk (KeepBut.trans (by repeat (first | (with_reducible first | exact HK.out | apply KeepBut.set_ | apply keep_drewN | apply keep_drew | apply keep_alloc) | exact HK.out)) (KeepBut.of_below hb g none) (.inl rfl)); have n4_ := Aside0.mk (below_step (by repeat (first | (with_reducible first | exact HB.out | apply below_alloc | apply pw_below_drewN | apply below_drew1 | refine below_set ?_ (IsS90.ge HI0.out)) | exact HB.out)) hb); clear HO_5; clear HI0; clear HK; clear HB; have HO_5 := n0_; have HO390 := n1_; have HI0 := n2_; have HK := n3_; have HB := n4_; clear n0_ n1_ n2_ n3_ n4_; clear hb ho37))
       go_ret
       exact ⟨_, by first | rfl | (simp [errW_none, errW_some] <;> rfl) | (simp [*, errW_none, errW_some] <;> rfl), by (with_reducible repeat (first | apply Kd.R_alloc | apply Kd.R_drewN | apply Kd.R_drew)); exact Kd.R_mono HO390.out (fun _ hk => trivial), by repeat (first | (with_reducible first | exact HI0.out | apply IsS90.alloc | apply IsS90.drewN | apply IsS90.drew | apply IsS90.set_1) | exact HI0.out), by repeat (first | (with_reducible first | exact HB.out | apply below_alloc | apply pw_below_drewN | apply below_drew1 | refine below_set ?_ (IsS90.ge HI0.out)) | exact HB.out), by repeat (first | (with_reducible first | exact HK.out | apply KeepBut.set_ | apply keep_drewN | apply keep_drew | apply keep_alloc) | exact HK.out)⟩
    ·replace c13 := Bool.eq_false_iff.mpr c13
     subst c13
     have H1 : (some (x5_1, t375)) = some (r1, r2) := by rw [if_neg (show ¬ (false = true) by decide)] at H; exact H
     clear H
     have H := H1
     clear H1
     simp only [Option.some.injEq, Prod.mk.injEq] at H
     obtain ⟨rfl, rfl⟩ := H
     go_wp2_with (first | ((with_reducible refine gate_callee (f := 85) rfl ?_); refine goesL_ (some 22) rfl rfl Try.func85 (by kernel_rfl) rfl #[.pointer (some ⟨g, 0, none⟩), .int .i64 a1] rfl (by (try simp only [List.map_toArray, List.map_cons, List.map_nil]); first | done | rfl) ?_; (with_reducible refine (spec_l20Rd_odd.calls k1 g s0_0 x1001_1 a1 false t375 w0 _ ?side1 ?side2 A12.out).mono ?_); (case side1 => repeat (first | (with_reducible first | exact HI0.out | apply IsS90.alloc | apply IsS90.drewN | apply IsS90.drew | apply IsS90.set_1) | exact HI0.out)); (case side2 => repeat (first | (with_reducible first | exact HB.out | apply below_alloc | apply pw_below_drewN | apply below_drew1 | refine below_set ?_ (IsS90.ge HI0.out)) | exact HB.out)); rintro e w38 ⟨rfl, hi, hb, hk⟩; refine ⟨_, rfl, ?_⟩; have n0_ := Aside0.mk (Kd.R_mono (Kd.R_keep (IsS90.apart (show IsS90 w0 _ g s0_0 x1001_1 from by repeat (first | (with_reducible first | exact HI0.out | apply IsS90.alloc | apply IsS90.drewN | apply IsS90.drew | apply IsS90.set_1) | exact HI0.out)) (by (with_reducible repeat (first | apply Kd.R_alloc | apply Kd.R_drewN | apply Kd.R_drew)); exact HO_5.out) (by decide)) hk (fun _ h => h.2)) (fun _ h => h.1)); have n1_ := Aside0.mk (KeepBut.trans (by repeat (first | (with_reducible first | exact HK.out | apply KeepBut.set_ | apply keep_drewN | apply keep_drew | apply keep_alloc) | exact HK.out)) hk (.inl rfl)); have n2_ := Aside0.mk (hb); have n3_ := Aside0.mk (hi); clear HO_5; clear HK; clear HB; clear HI0; have HO_5 := n0_; have HK := n1_; have HB := n2_; have HI0 := n3_; clear n0_ n1_ n2_ n3_))
     go_ret
     exact ⟨_, by first | rfl | (simp [errW_none, errW_some] <;> rfl) | (simp [*, errW_none, errW_some] <;> rfl), by (with_reducible repeat (first | apply Kd.R_alloc | apply Kd.R_drewN | apply Kd.R_drew)); exact HO_5.out, by repeat (first | (with_reducible first | exact HI0.out | apply IsS90.alloc | apply IsS90.drewN | apply IsS90.drew | apply IsS90.set_1) | exact HI0.out), by repeat (first | (with_reducible first | exact HB.out | apply below_alloc | apply pw_below_drewN | apply below_drew1 | refine below_set ?_ (IsS90.ge HI0.out)) | exact HB.out), by repeat (first | (with_reducible first | exact HK.out | apply KeepBut.set_ | apply keep_drewN | apply keep_drew | apply keep_alloc) | exact HK.out)⟩

end Go.Proofs.Ytojaioejdfibhaa.PFnTermWays
