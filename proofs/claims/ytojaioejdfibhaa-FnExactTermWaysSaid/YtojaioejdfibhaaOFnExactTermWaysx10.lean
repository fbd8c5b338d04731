/- Walks of the functions that the law FnExactTermWays reaches, written by a program of this session. No condition but those that each states. -/
import Derived.Test.YtojaioejdfibhaaOFnExactTermWaysx0
import Derived.Test.YtojaioejdfibhaaOFnExactTermWaysx2
import Derived.Test.YtojaioejdfibhaaOFnExactTermWaysx3
import Derived.Test.YtojaioejdfibhaaOFnExactTermWaysx8
import Derived.Test.YtojaioejdfibhaaOFnExactTermWaysx9
namespace Go.Proofs.Ytojaioejdfibhaa.PFnExactTermWays
open Go.RowKit Go.Proofs.YtojaioejdfibhaaW.PrintWords Go.Proofs.YtojaioejdfibhaaW.PrintLast Go.Proofs.YtojaioejdfibhaaW.PrintMore
attribute [local go_sem] max2_int min2_int max_two min_two max_three min_three max_four min_four   -- for this text's walks alone
set_option linter.unusedVariables false
set_option linter.unusedSimpArgs false

/-- Nothing but the block nb, and the block ob, has turned. -/
structure But (nb : Nat) (ob : Option Nat) (w w' : World) : Prop where
  os : w'.os = w.os
  tape : w'.tape = w.tape
  output : w'.output = w.output
  size : w.heap.size ≤ w'.heap.size
  block : ∀ k, k < w.heap.size → k ≠ nb → some k ≠ ob → w'.heap[k]? = w.heap[k]?
theorem But.refl (nb : Nat) (ob : Option Nat) (w : World) : But nb ob w w := ⟨rfl, rfl, rfl, Nat.le_refl _, fun _ _ _ _ => rfl⟩
theorem But.trans {nb : Nat} {ob : Option Nat} {a b c : World} (h : But nb ob a b) (k : But nb ob b c) : But nb ob a c :=
  ⟨k.os.trans h.os, k.tape.trans h.tape, k.output.trans h.output, Nat.le_trans h.size k.size, fun i hi h1 h2 => (k.block i (Nat.lt_of_lt_of_le hi h.size) h1 h2).trans (h.block i hi h1 h2)⟩
theorem But.wide {nb : Nat} {ob : Option Nat} {w w' : World} (h : But nb none w w') : But nb ob w w' := ⟨h.os, h.tape, h.output, h.size, fun k hk h1 _ => h.block k hk h1 (by simp)⟩
theorem But.of_below {nb : Nat} {ob : Option Nat} {w w' : World} (h : Below w.heap.size w w') : But nb ob w w' := ⟨h.os, h.tape, h.output, h.size, fun k hk _ _ => h.block k hk⟩
theorem But.below {nb : Nat} {ob : Option Nat} {w w' : World} (h : But nb ob w w') {B : Nat} (h1 : B ≤ nb) (h2 : ∀ k, ob = some k → B ≤ k) (h3 : B ≤ w.heap.size) : Below B w w' :=
  ⟨h.os, h.tape, h.output, h.size, fun k hk => h.block k (Nat.lt_of_lt_of_le hk h3) (by omega) (fun e => by have := h2 k e.symm; omega)⟩
theorem But.narrow {nb : Nat} {ob : Option Nat} {w w1 w' : World} (hw : But nb none w w1) (h : But nb ob w1 w') (h2 : ∀ k, ob = some k → w.heap.size ≤ k) : But nb none w w' :=
  ⟨h.os.trans hw.os, h.tape.trans hw.tape, h.output.trans hw.output, Nat.le_trans hw.size h.size, fun k hk h1 _ => (h.block k (Nat.lt_of_lt_of_le hk hw.size) h1 (fun e => by have := h2 k e.symm; omega)).trans (hw.block k hk h1 (by simp))⟩
theorem But.drewN {nb : Nat} {ob : Option Nat} {w w' : World} (h : But nb ob w w') (n : Nat) : But nb ob w (w'.drewN n) := h.trans (But.of_below (pw_below_drewN (Below.refl _ _) n))
theorem But.set_nb {nb : Nat} {ob : Option Nat} {w w' : World} (h : But nb ob w w') (j : Nat) (v : Value) : But nb ob w (w'.setCell ⟨nb, j, none⟩ v) :=
  h.trans ⟨rfl, rfl, rfl, by simp [World.setCell], fun k _ h1 _ => Below.heap_setCell _ _ _ _ h1⟩
theorem But.set_ob {nb o : Nat} {w w' : World} (h : But nb (some o) w w') (j : Nat) (v : Value) : But nb (some o) w (w'.setCell ⟨o, j, none⟩ v) :=
  h.trans ⟨rfl, rfl, rfl, by simp [World.setCell], fun k _ _ h2 => Below.heap_setCell _ _ _ _ (fun e => h2 (by rw [e]))⟩
/-- A block other than these holds what it held. -/
theorem But.keep {nb : Nat} {ob : Option Nat} {w w' : World} (h : But nb ob w w') {g : Nat} {o : Obj} (hg : w.heap[g]? = some o) (h1 : g ≠ nb) (h2 : some g ≠ ob) : w'.heap[g]? = some o := (h.block g (blk_lt hg) h1 h2).trans hg

/-- The counter: a block of one number. -/
def Cnt (nb : Nat) (s : Int) (w : World) : Prop := w.heap[nb]? = some (.cells #[.int .i64 s] 3 (0, 0))

/-- The told function (ft, with what it captured): at each word it brings the counter from s to T word s; of the elder world W nothing has turned. -/
structure Told (W : World) (nb ft : Nat) (cap : Array Value) (T : List Int → Int → Option Int) : Prop where
  ent : ∀ (args : Array Value) (w : World), (callFunc ft args).run Try.prog w = .ok (.enter ft args) w
  call : ∀ (A : Option Addr) (c : Nat) (u : List Int) (s r : Int) (w : World), But nb none W w → Kd.C (Kd.int .i64) w A u.length u → u.length ≤ c → Cnt nb s w → T u s = some r →
    Calls Try.prog ft (#[.slice A u.length c] ++ cap) w fun e w' => e = .returned (.tuple #[]) ∧ Cnt nb r w' ∧ But nb none w w'

/-- The rounds over the colours: n to come, the next one is c. -/
def wl (g : Int → Int → Option Int) : Nat → Int → Int → Option Int
  | 0, _, s => some s
  | n + 1, c, s => (g c s).bind fun s1 => wl g n (c + 1) s1
/-- All words that begin with pre and have d draws more, over cs colours. -/
def wk (T : List Int → Int → Option Int) (cs : Nat) : Nat → List Int → Int → Option Int
  | 0, pre, s => T pre s
  | d + 1, pre, s => wl (fun c s => wk T cs d (pre ++ [c]) s) cs 0 s

/-- The captured variables of 'try'. -/
structure Env (cs M mb tb wb cb yb ft : Nat) (cap : Array Value) (wv : Value) (nb : Nat) (w : World) : Prop where
  c : w.heap[cb]? = some (.cells #[.int .i64 (cs : Int)] 3 (0, 0))
  m : w.heap[mb]? = some (.cells #[.int .i64 (M : Int)] 3 (0, 0))
  t : w.heap[tb]? = some (.cells #[.func (.func ft) #[] cap] 70 (0, 0))
  v : w.heap[wb]? = some (.cells #[wv] 22 (0, 0))
  y : w.heap[yb]? = some (.cells #[.func (.func 81) #[] #[.pointer (some ⟨mb, 0, none⟩), .pointer (some ⟨tb, 0, none⟩), .pointer (some ⟨wb, 0, none⟩), .pointer (some ⟨cb, 0, none⟩), .pointer (some ⟨yb, 0, none⟩)]] 85 (0, 0))
  nc : cb ≠ nb ∧ some cb ≠ wv.ownBlock
  nm : mb ≠ nb ∧ some mb ≠ wv.ownBlock
  nt : tb ≠ nb ∧ some tb ≠ wv.ownBlock
  nv : wb ≠ nb ∧ some wb ≠ wv.ownBlock
  ny : yb ≠ nb ∧ some yb ≠ wv.ownBlock
theorem Env.keep {cs M mb tb wb cb yb ft nb : Nat} {cap : Array Value} {wv : Value} {w w' : World} (h : Env cs M mb tb wb cb yb ft cap wv nb w) (b : But nb wv.ownBlock w w') : Env cs M mb tb wb cb yb ft cap wv nb w' :=
  ⟨b.keep h.c h.nc.1 h.nc.2, b.keep h.m h.nm.1 h.nm.2, b.keep h.t h.nt.1 h.nt.2, b.keep h.v h.nv.1 h.nv.2, b.keep h.y h.ny.1 h.ny.2, h.nc, h.nm, h.nt, h.nv, h.ny⟩

/-- What a call of 'try' leaves. -/
def After (nb a M : Nat) (wv : Value) (base : Nat) (L : List Int) (r : Int) (w : World) (e : Ending) (w' : World) : Prop :=
  e = .returned (.tuple #[]) ∧ Cnt nb r w' ∧ But nb wv.ownBlock w w' ∧ ∃ L' : List Int, L'.length = M ∧ L'.take a = L.take a ∧ Kd.R (Kd.int .i64) 3 w' base (fun k => k ≠ nb) wv L'
theorem al_new (w : World) (o : Obj) {k : Nat} (hk : k = w.heap.size) : (w.alloc o).heap[k]? = some o := by subst hk; show (w.heap.push o)[_]? = _; simp
theorem al_old {w : World} {o x : Obj} {k : Nat} (h : w.heap[k]? = some x) : (w.alloc o).heap[k]? = some x := (Below.heap_alloc w o k (blk_lt h)).trans h
theorem al_size (w : World) (o : Obj) : (w.alloc o).heap.size = w.heap.size + 1 := by simp
theorem bl_keep {B k : Nat} {w w' : World} {x : Obj} (hb : Below B w w') (h : w.heap[k]? = some x) (hk : k < B) : w'.heap[k]? = some x := (hb.block k hk).trans h
theorem cnt_set {nb : Nat} {s v : Int} {w : World} (h : Cnt nb s w) : Cnt nb v (w.setCell ⟨nb, 0, none⟩ (.int .i64 v)) := one_setCell h
theorem cell_far {w : World} {g b : Nat} {u v : Value} (h : w.cell? ⟨g, 0, none⟩ = some v) (hne : g ≠ b) : (w.setCell ⟨b, 0, none⟩ u).cell? ⟨g, 0, none⟩ = some v := (World.cell?_of_block (w := w) (Below.heap_setCell w ⟨b, 0, none⟩ u g hne)).trans h
theorem cnt_new (w : World) (v : Int) : Cnt w.heap.size v (w.alloc (.cells #[.int .i64 v] 3)) := al_new _ _ rfl

set_option maxHeartbeats 8000000 in
set_option maxRecDepth 100000 in
theorem try_calls {W : World} {nb ft : Nat} {cap : Array Value} {T : List Int → Int → Option Int} (hT : Told W nb ft cap T) {cs M mb tb wb cb yb : Nat} {wv : Value} :
    ∀ (d a : Nat) (L : List Int) (s r : Int) (w : World), a + d = M → L.length = M → M ≤ 100 → cs ≤ 100 → Env cs M mb tb wb cb yb ft cap wv nb w → Kd.R (Kd.int .i64) 3 w W.heap.size (fun k => k ≠ nb) wv L → But nb none W w → Cnt nb s w →
      wk T cs d (L.take a) s = some r →
      Calls Try.prog 81 #[.int .i64 (a : Int), .pointer (some ⟨mb, 0, none⟩), .pointer (some ⟨tb, 0, none⟩), .pointer (some ⟨wb, 0, none⟩), .pointer (some ⟨cb, 0, none⟩), .pointer (some ⟨yb, 0, none⟩)] w (After nb a M wv W.heap.size L r w) := by
  intro d
  induction d with
  | zero =>
    intro a L s r w had hL hM hcs hE hR hB hs h
    obtain rfl : a = M := by omega
    obtain ⟨A, c, rfl, hc, hC⟩ := Kd.R_reads hR
    have HE := Aside0.mk hE
    have HT := Aside0.mk (hT.call A c L s r w hB hC hc hs (by rw [wk] at h; rw [List.take_of_length_le (by omega)] at h; exact h))
    rw [hL] at HT
    have e1 := cell_of_one hE.m
    have e2 := cell_of_one hE.t
    rw [hL] at hE
    have e3 := cell_of_one hE.v
    have hent := hT.ent
    clear hE hC hs h hT hB
    have HR := Aside0.mk hR
    clear hR
    have HL := Aside0.mk hL
    clear hL
    go_enter Try.func81, Try.ntmps81
    go_wp2_with (first | ((with_reducible refine HT.out.mono ?_); rintro e w' ⟨rfl, hs', hb'⟩))
    go_end0
    exact ⟨rfl, hs', hb'.wide, L, HL.out, rfl, Kd.R_step HR.out (fun k hk hl => hb'.block k hl hk (by simp))⟩
  | succ d ih =>
    intro a L s r w had hL hM hcs hE hR hB hs h
    obtain ⟨g, cp, rfl, hg1, hg2, _, hg3⟩ := Kd.R_form hR (by omega)
    have hgn : g ≠ nb := hR.1 g rfl
    have e1 := cell_of_one hE.m
    have e4 := cell_of_one hE.c
    have c1 : ((a : Int) == (M : Int)) = false := beq_eq_false_iff_ne.mpr (by omega)
    have HE := Aside0.mk hE
    have HR := Aside0.mk hR
    have HB := Aside0.mk hB
    have HS := Aside0.mk hs
    have HH := Aside0.mk (show wl (fun c s => wk T cs d (L.take a ++ [c]) s) cs 0 s = some r from h)
    have HT := Aside0.mk hT
    have HL := Aside0.mk hL
    have HG := Aside0.mk hg3
    clear hE hR hB hs h hT hL hg3
    go_enter Try.func81, Try.ntmps81
    go_wp2
    go_loopg [15] cs (fun kq v15 w' => ∃ (c s1 : Int) (L1 : List Int), v15 = .int .i64 c ∧ Aside0 (c + kq = cs ∧ 0 ≤ c) ∧ Aside0 (wl (fun c s => wk T cs d (L.take a ++ [c]) s) kq c s1 = some r) ∧ Aside0 (Cnt nb s1 w') ∧ Aside0 (But nb (some g) w w') ∧ Aside0 (L1.length = M ∧ L1.take a = L.take a) ∧ Aside0 (Kd.R (Kd.int .i64) 3 w' W.heap.size (fun k => k ≠ nb) (.slice (some ⟨g, 0, none⟩) L.length cp) L1))
    case atStart => exact ⟨0, s, L, rfl, ⟨by omega, by omega⟩, HH, HS, ⟨But.refl _ _ _⟩, ⟨HL.out, rfl⟩, HR⟩
    case round =>
      obtain ⟨c, s1, L1, rfl, HC, HA, HS1, HB1, HL1, HR1⟩ := hrel
      have hE1 := HE.out.keep HB1.out
      cases gk with
      | zero =>
        have c2 : decide (c < (cs : Int)) = false := decide_eq_false (by have := HC.out; omega)
        clear hE1 c1 e1 e4
        have hA := Option.some.inj HA.out
        go_wp2
        go_end0
        exact ⟨rfl, by rw [← hA]; exact HS1.out, HB1.out, L1, HL1.out.1, HL1.out.2, HR1.out⟩
      | succ n =>
        have hA := HA.out
        simp only [wl] at hA
        obtain ⟨s2, hA2, hA3⟩ := Option.bind_eq_some_iff.mp hA
        have c2 : decide (c < (cs : Int)) = true := decide_eq_true (by have := HC.out; omega)
        have hLs : ((L1.set a c).take (a + 1)) = L.take a ++ [c] := by
          rw [← HL1.out.2, List.take_add_one, List.take_set_of_le (by omega), List.getElem?_set_self (by have := HL1.out.1; omega)]
          rfl
        have hw : But nb (some g) w (wr.setCell ⟨g, a, none⟩ (.int .i64 c)) := HB1.out.set_ob a _
        have hR2 := Kd.R_putg HR1.out (a : Int) c
        have HI := ih (a + 1) (L1.set a c) s1 s2 (wr.setCell ⟨g, a, none⟩ (.int .i64 c)) (by omega) (by rw [List.length_set]; exact HL1.out.1) hM hcs (HE.out.keep hw) hR2.1 (HB.out.narrow hw (fun k hk => by obtain rfl := Option.some.inj hk; exact hg1)) (by show (World.setCell _ _ _).heap[nb]? = _; rw [Below.heap_setCell _ _ _ _ (fun h => hgn h.symm)]; exact HS1.out) (by rw [hLs]; exact hA2)
        rw [show ((a + 1 : Nat) : Int) = (a : Int) + 1 from rfl] at HI
        have HI := Aside0.mk HI
        have b1 : 0 ≤ c := HC.out.2
        have b2 : c ≤ 100 := by have := HC.out; omega
        have e3 := cell_of_one hE1.v
        have e5 := cell_of_one (HE.out.keep hw).y
        have e6 := Kd.R_celln 0 HR1.out (a : Int) (by omega) (by have := HL.out; omega)
        obtain ⟨e7, e8⟩ := e6
        rw [Int.toNat_natCast] at e7 e8
        have qa : a < M := by omega
        rw [HL.out] at e3
        have HA3 := Aside0.mk hA3
        have HW := Aside0.mk hw
        clear hA2 hA3 hLs hR2 hw hE1 c1 e1 e4 hA HA
        go_wp2_with (first | ((with_reducible refine HI.out.mono ?_); rintro e w' ⟨rfl, hs2, hb2, L2, hL2, ht2, hr2⟩))
        go_roundg n
        case measure => omega
        case rel => exact ⟨c + 1, s2, L2, rfl, ⟨by have := HC.out; omega, by have := HC.out; omega⟩, HA3, ⟨hs2⟩, ⟨HW.out.trans hb2⟩, ⟨hL2, by
          have h1 := congrArg (List.take a) ht2
          rw [List.take_take, List.take_take, Nat.min_eq_left (by omega), List.take_set_of_le (by omega)] at h1
          rw [h1]; exact HL1.out.2⟩, ⟨hr2⟩⟩
set_option maxHeartbeats 8000000 in
set_option maxRecDepth 100000 in
theorem words_calls {W : World} {nb ft : Nat} {cap : Array Value} {T : List Int → Int → Option Int} (hT : Told W nb ft cap T) {cs M : Nat} {s r : Int} {w : World} (hM : M ≤ 100) (hcs : cs ≤ 100)
    (hB : But nb none W w) (hs : Cnt nb s w) (h : wk T cs M [] s = some r) :
    Calls Try.prog 50 #[.int .i64 (cs : Int), .int .i64 (M : Int), .func (.func ft) #[] cap] w fun e w' => e = .returned (.tuple #[]) ∧ Cnt nb r w' ∧ But nb none w w' := by
  have HB := Aside0.mk hB
  have HS := Aside0.mk hs
  have HH := Aside0.mk h
  have HT := Aside0.mk hT
  have HN := Aside0.mk (blk_lt hs)
  clear hB hs h hT
  have hsf := fun (a : Addr) (c : Array Value) (w : World) => run_store Try.prog w a (.func (.func 81) #[] c) .plain rfl
  go_enter Try.func50, Try.ntmps50
  go_wp2_with (first | ((with_reducible refine gate_dst (N := 9) rfl ?_); refine Kd.R_make (Kd.int .i64) _ 3 rfl (N := 9) rfl 22 _ _ rfl (M : Int) rfl rfl Try.underlying22 (.int .i64 0) 8 info3 rfl (by decide) (by omega) 0 (ok := fun k => k ≠ nb) (okp := fun k => k ≠ nb) rfl (fun _ hk => hk) ?hfr (by omega) ?hsz (Below.refl _ _) (Nat.le_refl _) ?_; (case hfr => simp; have := HN.out; omega); (case hsz => omega); intro v1 w1 hR hB2 hg hn; clear hg; obtain ⟨A1, c1, rfl⟩ := Kd.R_slice hR))
  simp only [Int.toNat_natCast, List.length_replicate] at hR hn
  obtain ⟨b, hb1, hb2⟩ := hn
  simp only [al_size] at hb2 hB2 hR
  have z1 := hB2.size
  simp only [al_size] at z1
  have hbn : b ≠ nb := fun e => by have := HN.out; omega
  have hBw : Below w.heap.size w w1 := (below_alloc (below_alloc (below_alloc (Below.refl _ _) _) _) _).trans (hB2.mono (by omega))
  have hn1 := HN.out
  have hb4 : b < w1.heap.size := by
    obtain ⟨inner, ho⟩ := Kd.R_own hR
    exact own_lt ho b hb1
  have ew := (below_alloc (below_alloc hBw (.cells #[.slice A1 M c1] 22)) (.cells #[.func (.func 81) #[] #[.pointer (some ⟨w.heap.size + 1, 0, none⟩), .pointer (some ⟨w.heap.size + 1 + 1, 0, none⟩), .pointer (some ⟨w1.heap.size, 0, none⟩), .pointer (some ⟨w.heap.size, 0, none⟩), .pointer (some ⟨w1.heap.size + 1, 0, none⟩)]] 85))
  refine (try_calls HT.out (d := M) (a := 0) (L := List.replicate M 0) (s := s) (r := r) (cs := cs) (M := M) (wv := .slice A1 M c1) (mb := w.heap.size + 1) (tb := w.heap.size + 1 + 1) (wb := w1.heap.size) (cb := w.heap.size) (yb := w1.heap.size + 1) _ (by omega) (by simp) hM hcs ⟨al_old (al_old (bl_keep hB2 (al_old (al_old (al_new _ _ rfl))) (by omega))), al_old (al_old (bl_keep hB2 (al_old (al_new _ _ (by simp))) (by omega))), al_old (al_old (bl_keep hB2 (al_new _ _ (by simp)) (by omega))), al_old (al_new _ _ rfl), al_new _ _ (by simp), ⟨by omega, ?_⟩, ⟨by omega, ?_⟩, ⟨by omega, ?_⟩, ⟨by omega, ?_⟩, ⟨by omega, ?_⟩⟩ (Kd.R_alloc (Kd.R_alloc (Kd.R_lower hR (by have := HB.out.size; omega)) _) _) (HB.out.trans (But.of_below ew)) ((ew.block nb hn1).trans HS.out) HH.out).mono ?_
  iterate 5 (rw [hb1]; simp; omega)
  rintro e w' ⟨rfl, hs2, hb3, L2, -, -, -⟩
  rw [hb1] at hb3
  have hfin := But.narrow (But.of_below ew) hb3 (fun k hk => by have := Option.some.inj hk; omega)
  go_wp2
  go_end0
  exact ⟨rfl, hs2, hfin⟩

def TTW (k : Nat) (urn : List Int) (rule : List (List Int)) (ms : List S42) (u : List Int) (s : Int) : Option Int := (impl_fits.f k ms u).bind fun b => if b = true then (impl_ruleWays.f k urn rule u).bind fun x => some (wrap64 (s + x)) else some s
set_option maxHeartbeats 8000000 in
set_option maxRecDepth 100000 in
theorem tw1_told (W : World) (nb : Nat) (k : Nat) {A0 A1 A2 : Option Addr} {c0 c1 c2 : Nat} {urn : List Int} {rule : List (List Int)} {ms : List S42} {ub rb tb : Nat} (h0 : urn.length ≤ c0) (h1 : rule.length ≤ c1) (h2 : ms.length ≤ c2)
    (hC0 : ∀ w, But nb none W w → Kd.C (Kd.int .i64) w A0 urn.length urn) (hC1 : ∀ w, But nb none W w → Kd.C (Kd.slice 3 (Kd.int .i64)) w A1 rule.length rule) (hC2 : ∀ w, But nb none W w → Kd.C k42 w A2 ms.length ms)
    (hub : W.heap[ub]? = some (.cells #[.slice A0 urn.length c0] 22 (0, 0))) (hrb : W.heap[rb]? = some (.cells #[.slice A1 rule.length c1] 23 (0, 0))) (htb : W.heap[tb]? = some (.cells #[.slice A2 ms.length c2] 30 (0, 0))) (nub : ub ≠ nb) (nrb : rb ≠ nb) (ntb : tb ≠ nb) :
    Told W nb 52 #[.pointer (some ⟨tb, 0, none⟩), .pointer (some ⟨nb, 0, none⟩), .pointer (some ⟨ub, 0, none⟩), .pointer (some ⟨rb, 0, none⟩)] (TTW k urn rule ms) := by
  refine ⟨fun args w => enters_ (P := Try.prog) Try.func52 (by kernel_rfl) rfl args w, ?_⟩
  intro Au cu u s r w hB hCu hcu hs h
  obtain ⟨b, hb0, h⟩ := Option.bind_eq_some_iff.mp h
  have HCU := Aside0.mk hCu
  have HCU2 := Aside0.mk hcu
  have HS := Aside0.mk hs
  have HF := Aside0.mk hb0
  have HU := Aside0.mk (hB.keep hub nub (by simp))
  have HRU := Aside0.mk (hB.keep hrb nrb (by simp))
  have HTU := Aside0.mk (hB.keep htb ntb (by simp))
  have HC0 := Aside0.mk (hC0 w hB)
  have HC1 := Aside0.mk (hC1 w hB)
  have HC2 := Aside0.mk (hC2 w hB)
  have H0 := Aside0.mk h0
  have H1 := Aside0.mk h1
  have H2 := Aside0.mk h2
  have e3 := cell_of_one HTU.out
  clear hB hCu hcu hs hb0 hub hrb htb hC0 hC1 hC2 h0 h1 h2
  cases b with
  | false =>
    obtain rfl : s = r := Option.some.inj (by simpa using h)
    clear h
    go_enter Try.func52, Try.ntmps52
    go_wp2_with (first | (go_at_call 53; (with_reducible refine (impl_fits.calls k _ _ ms _ _ u _ _ ?sd1 ?sd2 ?sd3 ?sd4 HF.out).mono ?_); (case sd1 => exact HC2.out); (case sd2 => exact H2.out); (case sd3 => exact HCU.out); (case sd4 => exact HCU2.out); rintro e w' ⟨rfl, hb⟩; have HB2 := Aside0.mk hb; clear hb))
    go_end0
    exact ⟨rfl, bl_keep HB2.out HS.out (blk_lt HS.out), But.of_below HB2.out⟩
  | true =>
    obtain ⟨x, hx, h⟩ := Option.bind_eq_some_iff.mp (show (impl_ruleWays.f k urn rule u).bind (fun x => some (wrap64 (s + x))) = some r by simpa using h)
    have hr : wrap64 (s + x) = r := Option.some.inj h
    subst hr; clear h
    have HX := Aside0.mk hx
    clear hx
    go_enter Try.func52, Try.ntmps52
    go_wp2_with (first | (go_at_call 53; (with_reducible refine (impl_fits.calls k _ _ ms _ _ u _ _ ?sd1 ?sd2 ?sd3 ?sd4 HF.out).mono ?_); (case sd1 => exact HC2.out); (case sd2 => exact H2.out); (case sd3 => exact HCU.out); (case sd4 => exact HCU2.out); rintro e w1 ⟨rfl, hb⟩; have HB1 := Aside0.mk hb; have e0 := cell_of_one (bl_keep hb HS.out (blk_lt HS.out)); have e3 := free_of_one (bl_keep hb HS.out (blk_lt HS.out)); have e1 := cell_of_one (bl_keep hb HU.out (blk_lt HU.out)); have e2 := cell_of_one (bl_keep hb HRU.out (blk_lt HRU.out)); clear hb))
    go_region_with (first | (go_at_call 54; (with_reducible refine (impl_ruleWays.calls k _ _ urn _ _ rule _ _ u _ _ ?se1 ?se2 ?se3 ?se4 ?se5 ?se6 HX.out).mono ?_); (case se1 => exact Kd.C_drew (Kd.C_below HC0.out HB1.out)); (case se2 => exact H0.out); (case se3 => exact Kd.C_drew (Kd.C_below HC1.out HB1.out)); (case se4 => exact H1.out); (case se5 => exact Kd.C_drew (Kd.C_below HCU.out HB1.out)); (case se6 => exact HCU2.out); rintro e w' ⟨rfl, hb⟩; have HB2 := Aside0.mk (show Below w.heap.size w w' from HB1.out.trans (((below_drew (Below.refl _ _)).trans hb).mono HB1.out.size)); have e4 := cell_of_one (bl_keep HB2.out HS.out (blk_lt HS.out)); have e7 := free_of_one (bl_keep HB2.out HS.out (blk_lt HS.out)); have e5 := cell_of_one (bl_keep HB2.out HU.out (blk_lt HU.out)); have e6 := cell_of_one (bl_keep HB2.out HRU.out (blk_lt HRU.out)); clear hb))
    all_goals (try go_wp2)
    all_goals go_end0
    all_goals exact ⟨rfl, by (try rw [i64_w]); exact cnt_set (bl_keep HB2.out HS.out (blk_lt HS.out)), (But.of_below HB2.out).set_nb 0 _⟩
def impl_TermWays.f (k : Nat) (l0 : List Int) (l1 : List (List Int)) (l2 : List (S42)) : Option Int := (impl_ruleAsked.f k l0 l1).bind fun t => if t = true then ((impl_TermOk.f k (l0.length : Int) l2).bind fun t2 => if t2 = true then ((impl_lengthOf.f k l2).bind fun m => if 0 ≤ m ∧ m ≤ 100 ∧ l0.length ≤ 100 then wk (TTW k l0 l1 l2) l0.length m.toNat [] 0 else none) else some (-1)) else some (-1)
set_option maxHeartbeats 8000000 in
set_option maxRecDepth 100000 in
theorem impl_TermWays.calls (k : Nat) (A0 : Option Addr) (c0 : Nat) (l0 : List Int) (A1 : Option Addr) (c1 : Nat) (l1 : List (List Int)) (A2 : Option Addr) (c2 : Nat) (l2 : List (S42)) (r : Int) (w : World) (hr0 : Kd.C (Kd.int .i64) w A0 l0.length l0) (hc0 : l0.length ≤ c0) (hr1 : Kd.C (Kd.slice 3 (Kd.int .i64)) w A1 l1.length l1) (hc1 : l1.length ≤ c1) (hr2 : Kd.C k42 w A2 l2.length l2) (hc2 : l2.length ≤ c2) (h : impl_TermWays.f k l0 l1 l2 = some r) :
    Calls Try.prog 16 #[.slice A0 l0.length c0, .slice A1 l1.length c1, .slice A2 l2.length c2] w fun e w' => e = .returned (.int .i64 r) ∧ Below w.heap.size w w' := by
  obtain ⟨t, ht, h⟩ := Option.bind_eq_some_iff.mp h
  have HC0 := Aside0.mk hr0
  have HC1 := Aside0.mk hr1
  have HC2 := Aside0.mk hr2
  have H0 := Aside0.mk hc0
  have H1 := Aside0.mk hc1
  have H2 := Aside0.mk hc2
  have HT := Aside0.mk ht
  have HB0 := Aside0.mk (below_alloc (below_alloc (below_alloc (Below.refl w.heap.size w) (.cells #[.slice A0 l0.length c0] 22)) (.cells #[.slice A1 l1.length c1] 23)) (.cells #[.slice A2 l2.length c2] 30))
  have HU0 := Aside0.mk (show (((w.alloc (.cells #[.slice A0 l0.length c0] 22)).alloc (.cells #[.slice A1 l1.length c1] 23)).alloc (.cells #[.slice A2 l2.length c2] 30)).heap[w.heap.size]? = some (.cells #[.slice A0 l0.length c0] 22 (0, 0)) from al_old (al_old (al_new _ _ rfl)))
  have HR0 := Aside0.mk (show (((w.alloc (.cells #[.slice A0 l0.length c0] 22)).alloc (.cells #[.slice A1 l1.length c1] 23)).alloc (.cells #[.slice A2 l2.length c2] 30)).heap[w.heap.size + 1]? = some (.cells #[.slice A1 l1.length c1] 23 (0, 0)) from al_old (al_new _ _ (al_size _ _).symm))
  have HM0 := Aside0.mk (show (((w.alloc (.cells #[.slice A0 l0.length c0] 22)).alloc (.cells #[.slice A1 l1.length c1] 23)).alloc (.cells #[.slice A2 l2.length c2] 30)).heap[w.heap.size + 1 + 1]? = some (.cells #[.slice A2 l2.length c2] 30 (0, 0)) from al_new _ _ (by simp))
  clear hr0 hr1 hr2 hc0 hc1 hc2 ht
  cases t with
  | false =>
    have hr : (-1 : Int) = r := Option.some.inj (by simpa using h)
    subst hr; clear h
    go_enter Try.func16, Try.ntmps16
    go_wp2_with (first | (go_at_call 48; (with_reducible refine (impl_ruleAsked.calls k _ _ l0 _ _ l1 _ _ ?sd1 ?sd2 ?sd3 ?sd4 HT.out).mono ?_); (case sd1 => exact Kd.C_below HC0.out HB0.out); (case sd2 => exact H0.out); (case sd3 => exact Kd.C_below HC1.out HB0.out); (case sd4 => exact H1.out); rintro e w1 ⟨rfl, hd⟩; have HU := Aside0.mk (bl_keep hd.below HU0.out (blk_lt HU0.out)); have HR := Aside0.mk (bl_keep hd.below HR0.out (blk_lt HR0.out)); have HM := Aside0.mk (bl_keep hd.below HM0.out (blk_lt HM0.out)); have e1 := cell_of_one HU.out; have e3 := cell_of_one HM.out; have HB := Aside0.mk (HB0.out.trans (hd.below.mono HB0.out.size)); clear hd))
    go_ret
    exact ⟨rfl, HB.out⟩
  | true =>
    obtain ⟨t2, ht2, h⟩ := Option.bind_eq_some_iff.mp (show ((impl_TermOk.f k (l0.length : Int) l2).bind fun t2 => if t2 = true then ((impl_lengthOf.f k l2).bind fun m => if 0 ≤ m ∧ m ≤ 100 ∧ l0.length ≤ 100 then wk (TTW k l0 l1 l2) l0.length m.toNat [] 0 else none) else some (-1)) = some r by simpa using h)
    have HT2 := Aside0.mk ht2
    clear ht2
    cases t2 with
    | false =>
      have hr : (-1 : Int) = r := Option.some.inj (by simpa using h)
      subst hr; clear h
      go_enter Try.func16, Try.ntmps16
      go_wp2_with (first | (go_at_call 48; (with_reducible refine (impl_ruleAsked.calls k _ _ l0 _ _ l1 _ _ ?sd1 ?sd2 ?sd3 ?sd4 HT.out).mono ?_); (case sd1 => exact Kd.C_below HC0.out HB0.out); (case sd2 => exact H0.out); (case sd3 => exact Kd.C_below HC1.out HB0.out); (case sd4 => exact H1.out); rintro e w1 ⟨rfl, hd⟩; have HU := Aside0.mk (bl_keep hd.below HU0.out (blk_lt HU0.out)); have HR := Aside0.mk (bl_keep hd.below HR0.out (blk_lt HR0.out)); have HM := Aside0.mk (bl_keep hd.below HM0.out (blk_lt HM0.out)); have e1 := cell_of_one HU.out; have e3 := cell_of_one HM.out; have HB := Aside0.mk (HB0.out.trans (hd.below.mono HB0.out.size)); clear hd) | (go_at_call 49; (with_reducible refine (impl_TermOk.calls k _ _ _ l2 _ _ ?sf1 ?sf2 HT2.out).mono ?_); (case sf1 => exact Kd.C_below HC2.out HB.out); (case sf2 => exact H2.out); rintro e w2 ⟨rfl, hd⟩; have HU2 := Aside0.mk (bl_keep hd HU.out (blk_lt HU.out)); have HR2 := Aside0.mk (bl_keep hd HR.out (blk_lt HR.out)); have HM2 := Aside0.mk (bl_keep hd HM.out (blk_lt HM.out)); have HB2 := Aside0.mk (HB.out.trans (hd.mono HB.out.size)); clear hd))
      go_ret
      exact ⟨rfl, HB2.out⟩
    | true =>
      obtain ⟨m, hm, h⟩ := Option.bind_eq_some_iff.mp (show ((impl_lengthOf.f k l2).bind fun m => if 0 ≤ m ∧ m ≤ 100 ∧ l0.length ≤ 100 then wk (TTW k l0 l1 l2) l0.length m.toNat [] 0 else none) = some r by simpa using h)
      by_cases g : 0 ≤ m ∧ m ≤ 100 ∧ l0.length ≤ 100
      · rw [if_pos g] at h
        obtain ⟨M, rfl⟩ := Int.eq_ofNat_of_zero_le g.1
        rw [Int.toNat_natCast] at h
        have HMM := Aside0.mk (show M ≤ 100 by omega)
        have HL := Aside0.mk g.2.2
        have HH := Aside0.mk h
        have HLE := Aside0.mk hm
        clear h g hm
        go_enter Try.func16, Try.ntmps16
        go_wp2_with (first | (go_at_call 48; (with_reducible refine (impl_ruleAsked.calls k _ _ l0 _ _ l1 _ _ ?sd1 ?sd2 ?sd3 ?sd4 HT.out).mono ?_); (case sd1 => exact Kd.C_below HC0.out HB0.out); (case sd2 => exact H0.out); (case sd3 => exact Kd.C_below HC1.out HB0.out); (case sd4 => exact H1.out); rintro e w1 ⟨rfl, hd⟩; have HU := Aside0.mk (bl_keep hd.below HU0.out (blk_lt HU0.out)); have HR := Aside0.mk (bl_keep hd.below HR0.out (blk_lt HR0.out)); have HM := Aside0.mk (bl_keep hd.below HM0.out (blk_lt HM0.out)); have e1 := cell_of_one HU.out; have e3 := cell_of_one HM.out; have HB := Aside0.mk (HB0.out.trans (hd.below.mono HB0.out.size)); clear hd) | (go_at_call 49; (with_reducible refine (impl_TermOk.calls k _ _ _ l2 _ _ ?sf1 ?sf2 HT2.out).mono ?_); (case sf1 => exact Kd.C_below HC2.out HB.out); (case sf2 => exact H2.out); rintro e w2 ⟨rfl, hd⟩; have HU2 := Aside0.mk (bl_keep hd HU.out (blk_lt HU.out)); have HR2 := Aside0.mk (bl_keep hd HR.out (blk_lt HR.out)); have HM2 := Aside0.mk (bl_keep hd HM.out (blk_lt HM.out)); have HB2 := Aside0.mk (HB.out.trans (hd.mono HB.out.size)); clear hd))
        have e4 := cell_of_one (al_old (o := .cells #[.int .i64 0] 3) HU2.out)
        have e5 := cell_of_one (al_old (o := .cells #[.int .i64 0] 3) HM2.out)
        have HN1 := Aside0.mk (blk_lt HU2.out)
        have HN2 := Aside0.mk (blk_lt HR2.out)
        have HN3 := Aside0.mk (blk_lt HM2.out)
        have HB3 := Aside0.mk (below_alloc HB2.out (.cells #[.int .i64 0] 3))
        go_region_held3 (fun w' => w'.cell? ⟨w.heap.size, 0, none⟩ = some (.slice A0 l0.length c0) ∧ w'.cell? ⟨w.heap.size + 1 + 1, 0, none⟩ = some (.slice A2 l2.length c2))
          (first | exact ⟨e4, e5⟩ | exact ⟨e6, e7⟩ | exact ⟨e8, e9⟩)
          (first
            | (go_at_call 51; (with_reducible refine (impl_lengthOf.calls k _ _ l2 _ _ ?sg1 ?sg2 HLE.out).mono ?_); (case sg1 => exact Kd.C_drew (Kd.C_below HC2.out HB3.out)); (case sg2 => exact H2.out); rintro e w4 ⟨rfl, hb⟩; have HBL := Aside0.mk (show Below (w2.alloc (.cells #[.int .i64 0] 3)).heap.size (w2.alloc (.cells #[.int .i64 0] 3)) w4 from (below_drew (Below.refl _ _)).trans hb); clear hb; have HU4 := Aside0.mk (bl_keep HBL.out (al_old HU2.out) (blk_lt (al_old HU2.out))); have HR4 := Aside0.mk (bl_keep HBL.out (al_old HR2.out) (blk_lt (al_old HR2.out))); have HM4 := Aside0.mk (bl_keep HBL.out (al_old HM2.out) (blk_lt (al_old HM2.out))); have HS4 := Aside0.mk (show Cnt w2.heap.size 0 w4 from bl_keep HBL.out (cnt_new _ _) (by simp)); have HB4 := Aside0.mk (HB3.out.trans (HBL.out.mono HB3.out.size)); have HG := Aside0.mk (show ∀ w3, But w2.heap.size none w4 w3 → Below w.heap.size w w3 from fun w3 h3 => HB4.out.trans (h3.below HB2.out.size (by simp) HB4.out.size)); have e6 := cell_of_one HU4.out; have e7 := cell_of_one HM4.out)
            | (go_at_call 50; (with_reducible refine (words_calls (tw1_told w4 w2.heap.size k (ub := w.heap.size) (rb := w.heap.size + 1) (tb := w.heap.size + 1 + 1) H0.out H1.out H2.out (fun w3 h3 => Kd.C_below HC0.out (HG.out w3 h3)) (fun w3 h3 => Kd.C_below HC1.out (HG.out w3 h3)) (fun w3 h3 => Kd.C_below HC2.out (HG.out w3 h3)) HU4.out HR4.out HM4.out (Nat.ne_of_lt HN1.out) (Nat.ne_of_lt HN2.out) (Nat.ne_of_lt HN3.out)) HMM.out HL.out (But.refl _ _ _) HS4.out HH.out).mono ?_); rintro e w5 ⟨rfl, hs5, h5⟩; have HS5 := Aside0.mk hs5; have HB5 := Aside0.mk (HG.out w5 h5); have e8 := cell_of_one (h5.keep HU4.out (Nat.ne_of_lt HN1.out) (by simp)); have e9 := cell_of_one (h5.keep HM4.out (Nat.ne_of_lt HN3.out) (by simp)); have e10 := cell_of_one hs5; clear h5 hs5))
        all_goals go_wp2
        all_goals go_ret
        all_goals exact ⟨rfl, HB5.out⟩
      · rw [if_neg g] at h; simp at h

/-! ### laws_eqIntS: function 17 -/
def laws_eqIntS.l0 : Nat → List Int → List Int → Int → Option (Bool)
  | 0, _, _, _ => none
  | k + 1, x0, x1, x5 => if x5 < (x0.length : Int) then (if 0 ≤ x5 then (if x5 < (x1.length : Int) then (if (rd x0 x5) = (rd x1 x5) then (laws_eqIntS.l0 k x0 x1 (wrap64 (x5 + 1))) else (some false)) else (none)) else (none)) else (some true)
def laws_eqIntS.f (k : Nat) (l0 : List Int) (l1 : List Int) : Option (Bool) := if (l0.length : Int) = (l1.length : Int) then (laws_eqIntS.l0 k l0 l1 0) else (some false)
set_option maxHeartbeats 8000000 in
set_option maxRecDepth 100000 in
theorem laws_eqIntS.calls (k : Nat) (A0 : Option Addr) (c0 : Nat) (l0 : List Int) (A1 : Option Addr) (c1 : Nat) (l1 : List Int) (r : Bool) (w : World) (hr0 : Kd.C (Kd.int .i64) w A0 l0.length l0) (hc0 : l0.length ≤ c0) (hr1 : Kd.C (Kd.int .i64) w A1 l1.length l1) (hc1 : l1.length ≤ c1) (h : laws_eqIntS.f k l0 l1 = some r) :
    Calls Try.prog 17 #[.slice A0 l0.length c0, .slice A1 l1.length c1] w fun e w' => e = .returned (.bool r) ∧ Drawn0 w w' := by
  have HR0 := Aside0.mk hr0
  have HC0 := Aside0.mk hc0
  clear hr0 hc0
  have HR1 := Aside0.mk hr1
  have HC1 := Aside0.mk hc1
  clear hr1 hc1
  have H : (if (l0.length : Int) = (l1.length : Int) then (laws_eqIntS.l0 k l0 l1 0) else (some false)) = some r := h
  clear h
  by_cases c3 : (l0.length : Int) = (l1.length : Int)
  · rw [if_pos c3] at H
    have c3b0 : ((l0.length : Int) == (l1.length : Int)) = true := beq_iff_eq.mpr c3
    have c3b1 : ((l0.length : Int) != (l1.length : Int)) = false := bne_eq_false_iff_eq.mpr c3
    have c3b2 : (l0.length == l1.length) = true := by first | simpa using c3 | (simp at c3 ⊢; omega)
    clear c3
    have H' := Aside0.mk H
    clear H
    go_enter Try.func17, Try.ntmps17
    go_wp2
    repeat (go_quiet (fail); try go_wp2)
    go_loopg [5] k (fun kq v5 w' => ∃ (x5_1 : Int), v5 = .int .i64 x5_1 ∧ Aside0 (laws_eqIntS.l0 kq l0 l1 x5_1 = some r) ∧ Aside0 (kq ≤ k) ∧ Drawn0 w w')
    case atStart => exact ⟨(0), (by first | rfl | (simp; done) | (simp [*]; done)), H', ⟨Nat.le_refl _⟩, by repeat (first | exact Drawn0.refl _ | apply Drawn0.step)⟩
    case round =>
      clear H'
      try clear c1
      try clear p2
      try clear c3
      try clear c3b0
      try clear c3b1
      try clear c3b2
      obtain ⟨x5_1, rfl, HA, HK1, ⟨m1, rfl⟩⟩ := hrel
      cases gk with
      | zero => exact absurd HA.out (by simp [laws_eqIntS.l0])
      | succ k1 =>
        have H := HA.out
        clear HA
        simp only [laws_eqIntS.l0] at H
        by_cases c4 : x5_1 < (l0.length : Int)
        · rw [if_pos c4] at H
          have c4b0 : decide (x5_1 < (l0.length : Int)) = true := decide_eq_true c4
          clear c4
          by_cases c5 : 0 ≤ x5_1
          · rw [if_pos c5] at H
            have c5b0 : decide (0 ≤ x5_1) = true := decide_eq_true c5
            clear c5
            by_cases c6 : x5_1 < (l1.length : Int)
            · rw [if_pos c6] at H
              have c6b0 : decide (x5_1 < (l1.length : Int)) = true := decide_eq_true c6
              clear c6
              by_cases c7 : (rd l0 x5_1) = (rd l1 x5_1)
              · rw [if_pos c7] at H
                have c7b0 : ((rd l0 x5_1) == (rd l1 x5_1)) = true := beq_iff_eq.mpr c7
                have c7b1 : ((rd l0 x5_1) != (rd l1 x5_1)) = false := bne_eq_false_iff_eq.mpr c7
                clear c7
                have H' := Aside0.mk H
                clear H
                have p381 : 0 ≤ (x5_1 : Int) := of_decide_eq_true (by first | (with_reducible assumption) | assumption)
                have q381 : x5_1 < (l0.length : Int) := of_decide_eq_true (by first | (with_reducible assumption) | assumption)
                obtain ⟨ad381, e381, hx381_0⟩ := Kd.at_int HR0.out x5_1 p381 q381
                cases e381
                replace p381 := eq_true p381
                replace q381 := eq_true q381
                have p382 : 0 ≤ (x5_1 : Int) := of_decide_eq_true (by first | (with_reducible assumption) | assumption)
                have q382 : x5_1 < (l1.length : Int) := of_decide_eq_true (by first | (with_reducible assumption) | assumption)
                obtain ⟨ad382, e382, hx382_0⟩ := Kd.at_int HR1.out x5_1 p382 q382
                cases e382
                replace p382 := eq_true p382
                replace q382 := eq_true q382
                go_wp2
                repeat (go_quiet (fail); try go_wp2)
                go_roundg k1
                case measure => have := HK1.out; omega
                case rel => exact ⟨(wrap64 (x5_1 + 1)), (by first | rfl | (simp; done) | (simp [*]; done)), H', ⟨by have := HK1.out; omega⟩, by repeat (first | exact Drawn0.refl _ | apply Drawn0.step)⟩
              · rw [if_neg c7] at H
                have c7b0 : ((rd l0 x5_1) == (rd l1 x5_1)) = false := beq_eq_false_iff_ne.mpr c7
                have c7b1 : ((rd l0 x5_1) != (rd l1 x5_1)) = true := bne_iff_ne.mpr c7
                obtain rfl := Option.some.inj H
                have p381 : 0 ≤ (x5_1 : Int) := of_decide_eq_true (by first | (with_reducible assumption) | assumption)
                have q381 : x5_1 < (l0.length : Int) := of_decide_eq_true (by first | (with_reducible assumption) | assumption)
                obtain ⟨ad381, e381, hx381_0⟩ := Kd.at_int HR0.out x5_1 p381 q381
                cases e381
                replace p381 := eq_true p381
                replace q381 := eq_true q381
                have p382 : 0 ≤ (x5_1 : Int) := of_decide_eq_true (by first | (with_reducible assumption) | assumption)
                have q382 : x5_1 < (l1.length : Int) := of_decide_eq_true (by first | (with_reducible assumption) | assumption)
                obtain ⟨ad382, e382, hx382_0⟩ := Kd.at_int HR1.out x5_1 p382 q382
                cases e382
                replace p382 := eq_true p382
                replace q382 := eq_true q382
                go_wp2
                repeat (go_quiet (fail); try go_wp2)
                go_ret
                exact ⟨by first | rfl | (simp; done) | (simp [*]; done), by repeat (first | exact Drawn0.refl _ | apply Drawn0.step)⟩
            · rw [if_neg c6] at H
              exact absurd H (by simp)
          · rw [if_neg c5] at H
            exact absurd H (by simp)
        · rw [if_neg c4] at H
          have c4b0 : decide (x5_1 < (l0.length : Int)) = false := decide_eq_false c4
          clear c4
          obtain rfl := Option.some.inj H
          go_wp2
          repeat (go_quiet (fail); try go_wp2)
          go_ret
          exact ⟨by first | rfl | (simp; done) | (simp [*]; done), by repeat (first | exact Drawn0.refl _ | apply Drawn0.step)⟩
  · rw [if_neg c3] at H
    have c3b0 : ((l0.length : Int) == (l1.length : Int)) = false := beq_eq_false_iff_ne.mpr c3
    have c3b1 : ((l0.length : Int) != (l1.length : Int)) = true := bne_iff_ne.mpr c3
    have c3b2 : (l0.length == l1.length) = false := by first | simpa using c3 | (simp at c3 ⊢; omega)
    obtain rfl := Option.some.inj H
    go_enter Try.func17, Try.ntmps17
    go_wp2
    repeat (go_quiet (fail); try go_wp2)
    go_ret
    exact ⟨by first | rfl | (simp; done) | (simp [*]; done), by repeat (first | exact Drawn0.refl _ | apply Drawn0.step)⟩

/-! ### laws_eqIntSS: function 18 -/
def laws_eqIntSS.l0 : Nat → List (List Int) → List (List Int) → Int → Option (Bool)
  | 0, _, _, _ => none
  | k + 1, x0, x1, x5 => if x5 < (x0.length : Int) then (if 0 ≤ x5 then (if x5 < (x1.length : Int) then ((laws_eqIntS.f k (rd_L1 x0 x5) (rd_L1 x1 x5)).bind fun t385 => (if t385 = true then (laws_eqIntSS.l0 k x0 x1 (wrap64 (x5 + 1))) else (some false))) else (none)) else (none)) else (some true)
def laws_eqIntSS.f (k : Nat) (l0 : List (List Int)) (l1 : List (List Int)) : Option (Bool) := if (l0.length : Int) = (l1.length : Int) then (laws_eqIntSS.l0 k l0 l1 0) else (some false)
set_option maxHeartbeats 8000000 in
set_option maxRecDepth 100000 in
theorem laws_eqIntSS.calls (k : Nat) (A0 : Option Addr) (c0 : Nat) (l0 : List (List Int)) (A1 : Option Addr) (c1 : Nat) (l1 : List (List Int)) (r : Bool) (w : World) (hr0 : Kd.C (Kd.slice 3 (Kd.int .i64)) w A0 l0.length l0) (hc0 : l0.length ≤ c0) (hr1 : Kd.C (Kd.slice 3 (Kd.int .i64)) w A1 l1.length l1) (hc1 : l1.length ≤ c1) (h : laws_eqIntSS.f k l0 l1 = some r) :
    Calls Try.prog 18 #[.slice A0 l0.length c0, .slice A1 l1.length c1] w fun e w' => e = .returned (.bool r) ∧ Drawn0 w w' := by
  have HR0 := Aside0.mk hr0
  have HC0 := Aside0.mk hc0
  clear hr0 hc0
  have HR1 := Aside0.mk hr1
  have HC1 := Aside0.mk hc1
  clear hr1 hc1
  have H : (if (l0.length : Int) = (l1.length : Int) then (laws_eqIntSS.l0 k l0 l1 0) else (some false)) = some r := h
  clear h
  by_cases c3 : (l0.length : Int) = (l1.length : Int)
  · rw [if_pos c3] at H
    have c3b0 : ((l0.length : Int) == (l1.length : Int)) = true := beq_iff_eq.mpr c3
    have c3b1 : ((l0.length : Int) != (l1.length : Int)) = false := bne_eq_false_iff_eq.mpr c3
    have c3b2 : (l0.length == l1.length) = true := by first | simpa using c3 | (simp at c3 ⊢; omega)
    clear c3
    have H' := Aside0.mk H
    clear H
    go_enter Try.func18, Try.ntmps18
    go_wp2
    repeat (go_quiet (fail); try go_wp2)
    go_loopg [5] k (fun kq v5 w' => ∃ (x5_1 : Int), v5 = .int .i64 x5_1 ∧ Aside0 (laws_eqIntSS.l0 kq l0 l1 x5_1 = some r) ∧ Aside0 (kq ≤ k) ∧ Drawn0 w w')
    case atStart => exact ⟨(0), (by first | rfl | (simp; done) | (simp [*]; done)), H', ⟨Nat.le_refl _⟩, by repeat (first | exact Drawn0.refl _ | apply Drawn0.step)⟩
    case round =>
      clear H'
      try clear c1
      try clear p2
      try clear c3
      try clear c3b0
      try clear c3b1
      try clear c3b2
      obtain ⟨x5_1, rfl, HA, HK1, ⟨m1, rfl⟩⟩ := hrel
      cases gk with
      | zero => exact absurd HA.out (by simp [laws_eqIntSS.l0])
      | succ k1 =>
        have H := HA.out
        clear HA
        simp only [laws_eqIntSS.l0] at H
        by_cases c4 : x5_1 < (l0.length : Int)
        · rw [if_pos c4] at H
          have c4b0 : decide (x5_1 < (l0.length : Int)) = true := decide_eq_true c4
          clear c4
          by_cases c5 : 0 ≤ x5_1
          · rw [if_pos c5] at H
            have c5b0 : decide (0 ≤ x5_1) = true := decide_eq_true c5
            clear c5
            by_cases c6 : x5_1 < (l1.length : Int)
            · rw [if_pos c6] at H
              have c6b0 : decide (x5_1 < (l1.length : Int)) = true := decide_eq_true c6
              clear c6
              replace H := Option.bind_eq_some_iff.mp H
              obtain ⟨t385, A70, H⟩ := H
              replace H : (if t385 = true then (laws_eqIntSS.l0 k1 l0 l1 (wrap64 (x5_1 + 1))) else (some false)) = some r := H
              have A7 := Aside0.mk A70
              clear A70
              by_cases c8 : t385 = true
              · subst c8
                have H1 : (laws_eqIntSS.l0 k1 l0 l1 (wrap64 (x5_1 + 1))) = some r := by rw [if_pos rfl] at H; exact H
                clear H
                have H := H1
                clear H1
                have H' := Aside0.mk H
                clear H
                have p383 : 0 ≤ (x5_1 : Int) := of_decide_eq_true (by first | (with_reducible assumption) | assumption)
                have q383 : x5_1 < (l0.length : Int) := of_decide_eq_true (by first | (with_reducible assumption) | assumption)
                obtain ⟨ad383, A383_0, c383_0, e383, hx383_0, hl383_0, hi383_0⟩ := at_L1 HR0.out x5_1 p383 q383
                cases e383
                have HR383_0 := Aside0.mk hi383_0
                have HC383_0 := Aside0.mk hl383_0
                clear hi383_0 hl383_0
                replace p383 := eq_true p383
                replace q383 := eq_true q383
                have p384 : 0 ≤ (x5_1 : Int) := of_decide_eq_true (by first | (with_reducible assumption) | assumption)
                have q384 : x5_1 < (l1.length : Int) := of_decide_eq_true (by first | (with_reducible assumption) | assumption)
                obtain ⟨ad384, A384_0, c384_0, e384, hx384_0, hl384_0, hi384_0⟩ := at_L1 HR1.out x5_1 p384 q384
                cases e384
                have HR384_0 := Aside0.mk hi384_0
                have HC384_0 := Aside0.mk hl384_0
                clear hi384_0 hl384_0
                replace p384 := eq_true p384
                replace q384 := eq_true q384
                go_wp2_with (first | (go_at_call 17; (with_reducible refine (laws_eqIntS.calls k1 _ _ (rd_L1 l0 x5_1) _ _ (rd_L1 l1 x5_1) true _ ?side1 ?side2 ?side3 ?side4 A7.out).mono ?_); (case side1 => repeat (first | exact HR383_0.out | (with_reducible refine Kd.C_alloc ?_ _) | (with_reducible refine Kd.C_drewN ?_ _) | (with_reducible refine Kd.C_drew ?_))); (case side2 => exact HC383_0.out); (case side3 => repeat (first | exact HR384_0.out | (with_reducible refine Kd.C_alloc ?_ _) | (with_reducible refine Kd.C_drewN ?_ _) | (with_reducible refine Kd.C_drew ?_))); (case side4 => exact HC384_0.out); rintro e w' ⟨rfl, ⟨nd, rfl⟩⟩; (try first | exact ⟨rfl, _, World.drewN_drewN _ _ _⟩ | exact ⟨rfl, _, Eq.trans (World.drewN_drewN _ _ _) (congrArg (World.drewN _) (Nat.add_assoc _ _ _))⟩)))
                repeat (go_quiet (first | (go_at_call 17; (with_reducible refine (laws_eqIntS.calls k1 _ _ (rd_L1 l0 x5_1) _ _ (rd_L1 l1 x5_1) true _ ?side1 ?side2 ?side3 ?side4 A7.out).mono ?_); (case side1 => repeat (first | exact HR383_0.out | (with_reducible refine Kd.C_alloc ?_ _) | (with_reducible refine Kd.C_drewN ?_ _) | (with_reducible refine Kd.C_drew ?_))); (case side2 => exact HC383_0.out); (case side3 => repeat (first | exact HR384_0.out | (with_reducible refine Kd.C_alloc ?_ _) | (with_reducible refine Kd.C_drewN ?_ _) | (with_reducible refine Kd.C_drew ?_))); (case side4 => exact HC384_0.out); rintro e w' ⟨rfl, ⟨nd, rfl⟩⟩; (try first | exact ⟨rfl, _, World.drewN_drewN _ _ _⟩ | exact ⟨rfl, _, Eq.trans (World.drewN_drewN _ _ _) (congrArg (World.drewN _) (Nat.add_assoc _ _ _))⟩))); try go_wp2_with (first | (go_at_call 17; (with_reducible refine (laws_eqIntS.calls k1 _ _ (rd_L1 l0 x5_1) _ _ (rd_L1 l1 x5_1) true _ ?side1 ?side2 ?side3 ?side4 A7.out).mono ?_); (case side1 => repeat (first | exact HR383_0.out | (with_reducible refine Kd.C_alloc ?_ _) | (with_reducible refine Kd.C_drewN ?_ _) | (with_reducible refine Kd.C_drew ?_))); (case side2 => exact HC383_0.out); (case side3 => repeat (first | exact HR384_0.out | (with_reducible refine Kd.C_alloc ?_ _) | (with_reducible refine Kd.C_drewN ?_ _) | (with_reducible refine Kd.C_drew ?_))); (case side4 => exact HC384_0.out); rintro e w' ⟨rfl, ⟨nd, rfl⟩⟩; (try first | exact ⟨rfl, _, World.drewN_drewN _ _ _⟩ | exact ⟨rfl, _, Eq.trans (World.drewN_drewN _ _ _) (congrArg (World.drewN _) (Nat.add_assoc _ _ _))⟩))))
                go_roundg k1
                case measure => have := HK1.out; omega
                case rel => exact ⟨(wrap64 (x5_1 + 1)), (by first | rfl | (simp; done) | (simp [*]; done)), H', ⟨by have := HK1.out; omega⟩, by repeat (first | exact Drawn0.refl _ | apply Drawn0.step)⟩
              · replace c8 := Bool.eq_false_iff.mpr c8
                subst c8
                have H1 : (some false) = some r := by rw [if_neg (show ¬ (false = true) by decide)] at H; exact H
                clear H
                have H := H1
                clear H1
                obtain rfl := Option.some.inj H
                have p383 : 0 ≤ (x5_1 : Int) := of_decide_eq_true (by first | (with_reducible assumption) | assumption)
                have q383 : x5_1 < (l0.length : Int) := of_decide_eq_true (by first | (with_reducible assumption) | assumption)
                obtain ⟨ad383, A383_0, c383_0, e383, hx383_0, hl383_0, hi383_0⟩ := at_L1 HR0.out x5_1 p383 q383
                cases e383
                have HR383_0 := Aside0.mk hi383_0
                have HC383_0 := Aside0.mk hl383_0
                clear hi383_0 hl383_0
                replace p383 := eq_true p383
                replace q383 := eq_true q383
                have p384 : 0 ≤ (x5_1 : Int) := of_decide_eq_true (by first | (with_reducible assumption) | assumption)
                have q384 : x5_1 < (l1.length : Int) := of_decide_eq_true (by first | (with_reducible assumption) | assumption)
                obtain ⟨ad384, A384_0, c384_0, e384, hx384_0, hl384_0, hi384_0⟩ := at_L1 HR1.out x5_1 p384 q384
                cases e384
                have HR384_0 := Aside0.mk hi384_0
                have HC384_0 := Aside0.mk hl384_0
                clear hi384_0 hl384_0
                replace p384 := eq_true p384
                replace q384 := eq_true q384
                go_wp2_with (first | (go_at_call 17; (with_reducible refine (laws_eqIntS.calls k1 _ _ (rd_L1 l0 x5_1) _ _ (rd_L1 l1 x5_1) false _ ?side1 ?side2 ?side3 ?side4 A7.out).mono ?_); (case side1 => repeat (first | exact HR383_0.out | (with_reducible refine Kd.C_alloc ?_ _) | (with_reducible refine Kd.C_drewN ?_ _) | (with_reducible refine Kd.C_drew ?_))); (case side2 => exact HC383_0.out); (case side3 => repeat (first | exact HR384_0.out | (with_reducible refine Kd.C_alloc ?_ _) | (with_reducible refine Kd.C_drewN ?_ _) | (with_reducible refine Kd.C_drew ?_))); (case side4 => exact HC384_0.out); rintro e w' ⟨rfl, ⟨nd, rfl⟩⟩; (try first | exact ⟨rfl, _, World.drewN_drewN _ _ _⟩ | exact ⟨rfl, _, Eq.trans (World.drewN_drewN _ _ _) (congrArg (World.drewN _) (Nat.add_assoc _ _ _))⟩)))
                repeat (go_quiet (first | (go_at_call 17; (with_reducible refine (laws_eqIntS.calls k1 _ _ (rd_L1 l0 x5_1) _ _ (rd_L1 l1 x5_1) false _ ?side1 ?side2 ?side3 ?side4 A7.out).mono ?_); (case side1 => repeat (first | exact HR383_0.out | (with_reducible refine Kd.C_alloc ?_ _) | (with_reducible refine Kd.C_drewN ?_ _) | (with_reducible refine Kd.C_drew ?_))); (case side2 => exact HC383_0.out); (case side3 => repeat (first | exact HR384_0.out | (with_reducible refine Kd.C_alloc ?_ _) | (with_reducible refine Kd.C_drewN ?_ _) | (with_reducible refine Kd.C_drew ?_))); (case side4 => exact HC384_0.out); rintro e w' ⟨rfl, ⟨nd, rfl⟩⟩; (try first | exact ⟨rfl, _, World.drewN_drewN _ _ _⟩ | exact ⟨rfl, _, Eq.trans (World.drewN_drewN _ _ _) (congrArg (World.drewN _) (Nat.add_assoc _ _ _))⟩))); try go_wp2_with (first | (go_at_call 17; (with_reducible refine (laws_eqIntS.calls k1 _ _ (rd_L1 l0 x5_1) _ _ (rd_L1 l1 x5_1) false _ ?side1 ?side2 ?side3 ?side4 A7.out).mono ?_); (case side1 => repeat (first | exact HR383_0.out | (with_reducible refine Kd.C_alloc ?_ _) | (with_reducible refine Kd.C_drewN ?_ _) | (with_reducible refine Kd.C_drew ?_))); (case side2 => exact HC383_0.out); (case side3 => repeat (first | exact HR384_0.out | (with_reducible refine Kd.C_alloc ?_ _) | (with_reducible refine Kd.C_drewN ?_ _) | (with_reducible refine Kd.C_drew ?_))); (case side4 => exact HC384_0.out); rintro e w' ⟨rfl, ⟨nd, rfl⟩⟩; (try first | exact ⟨rfl, _, World.drewN_drewN _ _ _⟩ | exact ⟨rfl, _, Eq.trans (World.drewN_drewN _ _ _) (congrArg (World.drewN _) (Nat.add_assoc _ _ _))⟩))))
                go_ret
                exact ⟨by first | rfl | (simp; done) | (simp [*]; done), by repeat (first | exact Drawn0.refl _ | apply Drawn0.step)⟩
            · rw [if_neg c6] at H
              exact absurd H (by simp)
          · rw [if_neg c5] at H
            exact absurd H (by simp)
        · rw [if_neg c4] at H
          have c4b0 : decide (x5_1 < (l0.length : Int)) = false := decide_eq_false c4
          clear c4
          obtain rfl := Option.some.inj H
          go_wp2
          repeat (go_quiet (fail); try go_wp2)
          go_ret
          exact ⟨by first | rfl | (simp; done) | (simp [*]; done), by repeat (first | exact Drawn0.refl _ | apply Drawn0.step)⟩
  · rw [if_neg c3] at H
    have c3b0 : ((l0.length : Int) == (l1.length : Int)) = false := beq_eq_false_iff_ne.mpr c3
    have c3b1 : ((l0.length : Int) != (l1.length : Int)) = true := bne_iff_ne.mpr c3
    have c3b2 : (l0.length == l1.length) = false := by first | simpa using c3 | (simp at c3 ⊢; omega)
    obtain rfl := Option.some.inj H
    go_enter Try.func18, Try.ntmps18
    go_wp2
    repeat (go_quiet (fail); try go_wp2)
    go_ret
    exact ⟨by first | rfl | (simp; done) | (simp [*]; done), by repeat (first | exact Drawn0.refl _ | apply Drawn0.step)⟩

/-! ### laws_eqMark: function 55 -/
def laws_eqMark.f (a0_0 : Int) (a0_1 : Int) (a1_0 : Int) (a1_1 : Int) : Option (Bool) := if a0_0 = a1_0 then (if a0_1 = a1_1 then (some true) else (some false)) else (some false)
set_option maxHeartbeats 8000000 in
set_option maxRecDepth 100000 in
theorem laws_eqMark.calls (a0_0 : Int) (a0_1 : Int) (a1_0 : Int) (a1_1 : Int) (r : Bool) (w : World) (h : laws_eqMark.f a0_0 a0_1 a1_0 a1_1 = some r) :
    Calls Try.prog 55 #[.agg #[.int .i64 a0_0, .int .i64 a0_1], .agg #[.int .i64 a1_0, .int .i64 a1_1]] w fun e w' => e = .returned (.bool r) ∧ Below w.heap.size w w' := by
  have hu42 := Try.underlying42
  have HB := Aside0.mk (Below.refl w.heap.size w)
  have H : (if a0_0 = a1_0 then (if a0_1 = a1_1 then (some true) else (some false)) else (some false)) = some r := h
  clear h
  by_cases c3 : a0_0 = a1_0
  · rw [if_pos c3] at H
    have c3b0 : (a0_0 == a1_0) = true := beq_iff_eq.mpr c3
    have c3b1 : (a0_0 != a1_0) = false := bne_eq_false_iff_eq.mpr c3
    clear c3
    by_cases c4 : a0_1 = a1_1
    · rw [if_pos c4] at H
      have c4b0 : (a0_1 == a1_1) = true := beq_iff_eq.mpr c4
      have c4b1 : (a0_1 != a1_1) = false := bne_eq_false_iff_eq.mpr c4
      clear c4
      obtain rfl := Option.some.inj H
      go_enter Try.func55, Try.ntmps55
      go_wp2_with (first | ((with_reducible refine gate_dst (N := 2) rfl ?_); refine box_event ?hg (N := 2) ?hd (cs := #[.int .i64 a0_0, .int .i64 a0_1]) (t := 42) ?hr ?_; (case hd => rfl); (case hg => rfl); (case hr => first | (go_simp; done) | (go_simp; rfl)); intro gb386 hg w5 hbox hb; have n0_ := Aside0.mk (below_step (by repeat (first | (with_reducible first | exact HB.out | apply below_alloc | apply pw_below_drewN | apply below_drew1) | exact HB.out)) hb); have n1_ := Aside0.mk (hbox); have n2_ := Aside0.mk ((by rw [hg]; exact (below_size (by repeat (first | (with_reducible first | exact HB.out | apply below_alloc | apply pw_below_drewN | apply below_drew1) | exact HB.out))) : w.heap.size ≤ gb386)); have n3_ := Aside0.mk ((by rw [hg]; exact (below_size (by repeat (first | (with_reducible first | exact HB.out | apply below_alloc | apply pw_below_drewN | apply below_drew1) | exact HB.out))) : w.heap.size ≤ gb386)); clear HB; have HB := n0_; have BK386 := n1_; have GW386 := n2_; have GE386 := n3_; clear n0_ n1_ n2_ n3_; clear hb hbox hg) | ((with_reducible refine gate_dst (N := 3) rfl ?_); refine box_event ?hg (N := 3) ?hd (cs := #[.int .i64 a1_0, .int .i64 a1_1]) (t := 42) ?hr ?_; (case hd => rfl); (case hg => rfl); (case hr => first | (go_simp; done) | (go_simp; rfl)); intro gb387 hg w6 hbox hb; have n0_ := Aside0.mk (blk_below (g := gb386) (o := .cells #[.int .i64 a0_0, .int .i64 a0_1] 42 (0, 0)) (by (with_reducible repeat (first | refine blk_drewN ?_ _ | refine blk_drew ?_ | refine blk_alloc ?_ _)); exact BK386.out) hb); have n1_ := Aside0.mk (below_step (by repeat (first | (with_reducible first | exact HB.out | apply below_alloc | apply pw_below_drewN | apply below_drew1 | refine below_set ?_ GE386.out) | exact HB.out)) hb); have n2_ := Aside0.mk (hbox); have n3_ := Aside0.mk ((by rw [hg]; exact (below_size (by repeat (first | (with_reducible first | exact HB.out | apply below_alloc | apply pw_below_drewN | apply below_drew1 | refine below_set ?_ GE386.out) | exact HB.out))) : w.heap.size ≤ gb387)); have n4_ := Aside0.mk ((by rw [hg]; exact (below_size (by repeat (first | (with_reducible first | exact HB.out | apply below_alloc | apply pw_below_drewN | apply below_drew1 | refine below_set ?_ GE386.out) | exact HB.out))) : w.heap.size ≤ gb387)); have n5_ := Aside0.mk ((by rw [hg]; exact Nat.ne_of_lt (blk_lt (g := gb386) (o := .cells #[.int .i64 a0_0, .int .i64 a0_1] 42 (0, 0)) (by (with_reducible repeat (first | refine blk_drewN ?_ _ | refine blk_drew ?_ | refine blk_alloc ?_ _)); exact BK386.out)) : gb386 ≠ gb387)); have n6_ := Aside0.mk ((by rw [hg]; exact Nat.ne_of_gt (blk_lt (g := gb386) (o := .cells #[.int .i64 a0_0, .int .i64 a0_1] 42 (0, 0)) (by (with_reducible repeat (first | refine blk_drewN ?_ _ | refine blk_drew ?_ | refine blk_alloc ?_ _)); exact BK386.out)) : gb387 ≠ gb386)); clear BK386; clear HB; have BK386 := n0_; have HB := n1_; have BK387 := n2_; have GW387 := n3_; have GE387 := n4_; have NB386_387 := n5_; have NB387_386 := n6_; clear n0_ n1_ n2_ n3_ n4_ n5_ n6_; clear hb hbox hg; have hnb7 := NB386_387.out; have hnc7 := NB387_386.out; have hcz8_0 : w6.cell? ⟨gb386, 0, none⟩ = some (.int .i64 a0_0) := (blk_cell BK386.out 0).trans rfl; have hcz8_1 : w6.cell? ⟨gb386, 1, none⟩ = some (.int .i64 a0_1) := (blk_cell BK386.out 1).trans rfl; have hfz8_0 := blk_frozen BK386.out 0; have hfz8_1 := blk_frozen BK386.out 1; have hcz9_0 : w6.cell? ⟨gb387, 0, none⟩ = some (.int .i64 a1_0) := (blk_cell BK387.out 0).trans rfl; have hcz9_1 : w6.cell? ⟨gb387, 1, none⟩ = some (.int .i64 a1_1) := (blk_cell BK387.out 1).trans rfl; have hfz9_0 := blk_frozen BK387.out 0; have hfz9_1 := blk_frozen BK387.out 1))
      go_ret
      exact ⟨by first | rfl | (simp [errW_none, errW_some] <;> rfl) | (simp [*, errW_none, errW_some] <;> rfl), by repeat (first | (with_reducible first | exact HB.out | apply below_alloc | apply pw_below_drewN | apply below_drew1 | refine below_set ?_ GE386.out | refine below_set ?_ GE387.out) | exact HB.out)⟩
    · rw [if_neg c4] at H
      have c4b0 : (a0_1 == a1_1) = false := beq_eq_false_iff_ne.mpr c4
      have c4b1 : (a0_1 != a1_1) = true := bne_iff_ne.mpr c4
      obtain rfl := Option.some.inj H
      go_enter Try.func55, Try.ntmps55
      go_wp2_with (first | ((with_reducible refine gate_dst (N := 2) rfl ?_); refine box_event ?hg (N := 2) ?hd (cs := #[.int .i64 a0_0, .int .i64 a0_1]) (t := 42) ?hr ?_; (case hd => rfl); (case hg => rfl); (case hr => first | (go_simp; done) | (go_simp; rfl)); intro gb386 hg w10 hbox hb; have n0_ := Aside0.mk (below_step (by repeat (first | (with_reducible first | exact HB.out | apply below_alloc | apply pw_below_drewN | apply below_drew1) | exact HB.out)) hb); have n1_ := Aside0.mk (hbox); have n2_ := Aside0.mk ((by rw [hg]; exact (below_size (by repeat (first | (with_reducible first | exact HB.out | apply below_alloc | apply pw_below_drewN | apply below_drew1) | exact HB.out))) : w.heap.size ≤ gb386)); have n3_ := Aside0.mk ((by rw [hg]; exact (below_size (by repeat (first | (with_reducible first | exact HB.out | apply below_alloc | apply pw_below_drewN | apply below_drew1) | exact HB.out))) : w.heap.size ≤ gb386)); clear HB; have HB := n0_; have BK386 := n1_; have GW386 := n2_; have GE386 := n3_; clear n0_ n1_ n2_ n3_; clear hb hbox hg) | ((with_reducible refine gate_dst (N := 3) rfl ?_); refine box_event ?hg (N := 3) ?hd (cs := #[.int .i64 a1_0, .int .i64 a1_1]) (t := 42) ?hr ?_; (case hd => rfl); (case hg => rfl); (case hr => first | (go_simp; done) | (go_simp; rfl)); intro gb387 hg w11 hbox hb; have n0_ := Aside0.mk (blk_below (g := gb386) (o := .cells #[.int .i64 a0_0, .int .i64 a0_1] 42 (0, 0)) (by (with_reducible repeat (first | refine blk_drewN ?_ _ | refine blk_drew ?_ | refine blk_alloc ?_ _)); exact BK386.out) hb); have n1_ := Aside0.mk (below_step (by repeat (first | (with_reducible first | exact HB.out | apply below_alloc | apply pw_below_drewN | apply below_drew1 | refine below_set ?_ GE386.out) | exact HB.out)) hb); have n2_ := Aside0.mk (hbox); have n3_ := Aside0.mk ((by rw [hg]; exact (below_size (by repeat (first | (with_reducible first | exact HB.out | apply below_alloc | apply pw_below_drewN | apply below_drew1 | refine below_set ?_ GE386.out) | exact HB.out))) : w.heap.size ≤ gb387)); have n4_ := Aside0.mk ((by rw [hg]; exact (below_size (by repeat (first | (with_reducible first | exact HB.out | apply below_alloc | apply pw_below_drewN | apply below_drew1 | refine below_set ?_ GE386.out) | exact HB.out))) : w.heap.size ≤ gb387)); have n5_ := Aside0.mk ((by rw [hg]; exact Nat.ne_of_lt (blk_lt (g := gb386) (o := .cells #[.int .i64 a0_0, .int .i64 a0_1] 42 (0, 0)) (by (with_reducible repeat (first | refine blk_drewN ?_ _ | refine blk_drew ?_ | refine blk_alloc ?_ _)); exact BK386.out)) : gb386 ≠ gb387)); have n6_ := Aside0.mk ((by rw [hg]; exact Nat.ne_of_gt (blk_lt (g := gb386) (o := .cells #[.int .i64 a0_0, .int .i64 a0_1] 42 (0, 0)) (by (with_reducible repeat (first | refine blk_drewN ?_ _ | refine blk_drew ?_ | refine blk_alloc ?_ _)); exact BK386.out)) : gb387 ≠ gb386)); clear BK386; clear HB; have BK386 := n0_; have HB := n1_; have BK387 := n2_; have GW387 := n3_; have GE387 := n4_; have NB386_387 := n5_; have NB387_386 := n6_; clear n0_ n1_ n2_ n3_ n4_ n5_ n6_; clear hb hbox hg; have hnb12 := NB386_387.out; have hnc12 := NB387_386.out; have hcz13_0 : w11.cell? ⟨gb386, 0, none⟩ = some (.int .i64 a0_0) := (blk_cell BK386.out 0).trans rfl; have hcz13_1 : w11.cell? ⟨gb386, 1, none⟩ = some (.int .i64 a0_1) := (blk_cell BK386.out 1).trans rfl; have hfz13_0 := blk_frozen BK386.out 0; have hfz13_1 := blk_frozen BK386.out 1; have hcz14_0 : w11.cell? ⟨gb387, 0, none⟩ = some (.int .i64 a1_0) := (blk_cell BK387.out 0).trans rfl; have hcz14_1 : w11.cell? ⟨gb387, 1, none⟩ = some (.int .i64 a1_1) := (blk_cell BK387.out 1).trans rfl; have hfz14_0 := blk_frozen BK387.out 0; have hfz14_1 := blk_frozen BK387.out 1))
      go_ret
      exact ⟨by first | rfl | (simp [errW_none, errW_some] <;> rfl) | (simp [*, errW_none, errW_some] <;> rfl), by repeat (first | (with_reducible first | exact HB.out | apply below_alloc | apply pw_below_drewN | apply below_drew1 | refine below_set ?_ GE386.out | refine below_set ?_ GE387.out) | exact HB.out)⟩
  · rw [if_neg c3] at H
    have c3b0 : (a0_0 == a1_0) = false := beq_eq_false_iff_ne.mpr c3
    have c3b1 : (a0_0 != a1_0) = true := bne_iff_ne.mpr c3
    obtain rfl := Option.some.inj H
    go_enter Try.func55, Try.ntmps55
    go_wp2_with (first | ((with_reducible refine gate_dst (N := 2) rfl ?_); refine box_event ?hg (N := 2) ?hd (cs := #[.int .i64 a0_0, .int .i64 a0_1]) (t := 42) ?hr ?_; (case hd => rfl); (case hg => rfl); (case hr => first | (go_simp; done) | (go_simp; rfl)); intro gb386 hg w15 hbox hb; have n0_ := Aside0.mk (below_step (by repeat (first | (with_reducible first | exact HB.out | apply below_alloc | apply pw_below_drewN | apply below_drew1) | exact HB.out)) hb); have n1_ := Aside0.mk (hbox); have n2_ := Aside0.mk ((by rw [hg]; exact (below_size (by repeat (first | (with_reducible first | exact HB.out | apply below_alloc | apply pw_below_drewN | apply below_drew1) | exact HB.out))) : w.heap.size ≤ gb386)); have n3_ := Aside0.mk ((by rw [hg]; exact (below_size (by repeat (first | (with_reducible first | exact HB.out | apply below_alloc | apply pw_below_drewN | apply below_drew1) | exact HB.out))) : w.heap.size ≤ gb386)); clear HB; have HB := n0_; have BK386 := n1_; have GW386 := n2_; have GE386 := n3_; clear n0_ n1_ n2_ n3_; clear hb hbox hg) | ((with_reducible refine gate_dst (N := 3) rfl ?_); refine box_event ?hg (N := 3) ?hd (cs := #[.int .i64 a1_0, .int .i64 a1_1]) (t := 42) ?hr ?_; (case hd => rfl); (case hg => rfl); (case hr => first | (go_simp; done) | (go_simp; rfl)); intro gb387 hg w16 hbox hb; have n0_ := Aside0.mk (blk_below (g := gb386) (o := .cells #[.int .i64 a0_0, .int .i64 a0_1] 42 (0, 0)) (by (with_reducible repeat (first | refine blk_drewN ?_ _ | refine blk_drew ?_ | refine blk_alloc ?_ _)); exact BK386.out) hb); have n1_ := Aside0.mk (below_step (by repeat (first | (with_reducible first | exact HB.out | apply below_alloc | apply pw_below_drewN | apply below_drew1 | refine below_set ?_ GE386.out) | exact HB.out)) hb); have n2_ := Aside0.mk (hbox); have n3_ := Aside0.mk ((by rw [hg]; exact (below_size (by repeat (first | (with_reducible first | exact HB.out | apply below_alloc | apply pw_below_drewN | apply below_drew1 | refine below_set ?_ GE386.out) | exact HB.out))) : w.heap.size ≤ gb387)); have n4_ := Aside0.mk ((by rw [hg]; exact (below_size (by repeat (first | (with_reducible first | exact HB.out | apply below_alloc | apply pw_below_drewN | apply below_drew1 | refine below_set ?_ GE386.out) | exact HB.out))) : w.heap.size ≤ gb387)); have n5_ := Aside0.mk ((by rw [hg]; exact Nat.ne_of_lt (blk_lt (g := gb386) (o := .cells #[.int .i64 a0_0, .int .i64 a0_1] 42 (0, 0)) (by (with_reducible repeat (first | refine blk_drewN ?_ _ | refine blk_drew ?_ | refine blk_alloc ?_ _)); exact BK386.out)) : gb386 ≠ gb387)); have n6_ := Aside0.mk ((by rw [hg]; exact Nat.ne_of_gt (blk_lt (g := gb386) (o := .cells #[.int .i64 a0_0, .int .i64 a0_1] 42 (0, 0)) (by (with_reducible repeat (first | refine blk_drewN ?_ _ | refine blk_drew ?_ | refine blk_alloc ?_ _)); exact BK386.out)) : gb387 ≠ gb386)); clear BK386; clear HB; have BK386 := n0_; have HB := n1_; have BK387 := n2_; have GW387 := n3_; have GE387 := n4_; have NB386_387 := n5_; have NB387_386 := n6_; clear n0_ n1_ n2_ n3_ n4_ n5_ n6_; clear hb hbox hg; have hnb17 := NB386_387.out; have hnc17 := NB387_386.out; have hcz18_0 : w16.cell? ⟨gb386, 0, none⟩ = some (.int .i64 a0_0) := (blk_cell BK386.out 0).trans rfl; have hcz18_1 : w16.cell? ⟨gb386, 1, none⟩ = some (.int .i64 a0_1) := (blk_cell BK386.out 1).trans rfl; have hfz18_0 := blk_frozen BK386.out 0; have hfz18_1 := blk_frozen BK386.out 1; have hcz19_0 : w16.cell? ⟨gb387, 0, none⟩ = some (.int .i64 a1_0) := (blk_cell BK387.out 0).trans rfl; have hcz19_1 : w16.cell? ⟨gb387, 1, none⟩ = some (.int .i64 a1_1) := (blk_cell BK387.out 1).trans rfl; have hfz19_0 := blk_frozen BK387.out 0; have hfz19_1 := blk_frozen BK387.out 1))
    go_ret
    exact ⟨by first | rfl | (simp [errW_none, errW_some] <;> rfl) | (simp [*, errW_none, errW_some] <;> rfl), by repeat (first | (with_reducible first | exact HB.out | apply below_alloc | apply pw_below_drewN | apply below_drew1 | refine below_set ?_ GE386.out | refine below_set ?_ GE387.out) | exact HB.out)⟩

end Go.Proofs.Ytojaioejdfibhaa.PFnExactTermWays
