/- FnExactFitsOk: for all arguments that the statement lets in, the law answers true. No condition of ours. -/
import Derived.Test.YtpnloocdeljmhaaOFnExactFitsOkx9
namespace Go.Proofs.Ytpnloocdeljmhaa.Pure
open Go.RowKit Go.Proofs.Ytpnloocdeljmhaa.PFnExactFitsOk Go.Proofs.YtpnloocdeljmhaaW.PrintWords Go.Proofs.YtpnloocdeljmhaaW.PrintLast

theorem wr {n : Int} (h0 : -9223372036854775808 ≤ n) (h1 : n < 9223372036854775808) : wrap64 n = n := by unfold wrap64; omega
theorem wrap_lo (x : Int) : -9223372036854775808 ≤ wrap64 x := by unfold wrap64; omega
theorem wrap_hi (x : Int) : wrap64 x < 9223372036854775808 := by unfold wrap64; omega

theorem rd_nat (l : List Int) (i : Nat) (h : i < l.length) : rd l (i : Int) = l[i] := by
  unfold rd
  rw [Int.toNat_natCast, List.getD_eq_getElem?_getD, List.getElem?_eq_getElem h]; rfl

theorem rd_getD (l : List Int) (i : Nat) : rd l (i : Int) = l.getD i 0 := by
  unfold rd; rw [Int.toNat_natCast]

theorem toIntS_l0 (l : List Int) (hl : l.length ≤ 17592186044416) : ∀ (d i f : Nat) (y : List Int), i + d = l.length → d < f → y.length = l.length → y.take i = l.take i →
    laws_toIntS.l0 f l y (i : Int) = some l := by
  intro d
  induction d with
  | zero =>
    intro i f y hi hf hy ht
    obtain ⟨f, rfl⟩ : ∃ g, f = g + 1 := ⟨f - 1, by omega⟩
    simp only [laws_toIntS.l0]; rw [if_neg (by omega)]
    rw [List.take_of_length_le (by omega), List.take_of_length_le (by omega)] at ht
    rw [ht]
  | succ d ih =>
    intro i f y hi hf hy ht
    obtain ⟨f, rfl⟩ : ∃ g, f = g + 1 := ⟨f - 1, by omega⟩
    simp only [laws_toIntS.l0]
    rw [if_pos (by omega), if_pos (by omega), if_pos (by omega), Int.toNat_natCast, rd_nat l i (by omega), wr (by omega) (by omega)]
    refine ih (i + 1) f (y.set i l[i]) (by omega) (by omega) (by simpa using hy) ?_
    rw [List.take_succ_eq_append_getElem (by simp; omega), List.take_succ_eq_append_getElem (by omega)]
    rw [List.take_set_of_le (by omega), ht]
    congr 1; simp

theorem toIntS_ok (l : List Int) (f : Nat) (hl : l.length ≤ 17592186044416) (hf : l.length + 2 ≤ f) : laws_toIntS.f f l = some l := by
  unfold laws_toIntS.f
  rw [if_pos (by omega), Int.toNat_natCast, if_pos (by omega)]
  exact toIntS_l0 l hl l.length 0 f _ (by omega) (by omega) (by simp) rfl

theorem eqIntS_l0 (a b : List Int) (hab : a.length = b.length) (hl : a.length ≤ 17592186044416) : ∀ (d i f : Nat), i + d = a.length → d < f →
    laws_eqIntS.l0 f a b (i : Int) = some (decide (a.drop i = b.drop i)) := by
  intro d
  induction d with
  | zero =>
    intro i f hi hf
    obtain ⟨f, rfl⟩ : ∃ g, f = g + 1 := ⟨f - 1, by omega⟩
    simp only [laws_eqIntS.l0]; rw [if_neg (by omega), List.drop_of_length_le (by omega), List.drop_of_length_le (by omega)]; rfl
  | succ d ih =>
    intro i f hi hf
    obtain ⟨f, rfl⟩ : ∃ g, f = g + 1 := ⟨f - 1, by omega⟩
    simp only [laws_eqIntS.l0]
    rw [if_pos (by omega), if_pos (by omega), if_pos (by omega), rd_nat a i (by omega), rd_nat b i (by omega), wr (by omega) (by omega)]
    rw [List.drop_eq_getElem_cons (show i < a.length by omega), List.drop_eq_getElem_cons (show i < b.length by omega)]
    by_cases h : a[i] = b[i]
    · rw [if_pos h]
      have := ih (i + 1) f (by omega) (by omega)
      rw [show ((i : Int) + 1) = ((i + 1 : Nat) : Int) by omega, this, h]
      congr 1; apply decide_eq_decide.2; exact ⟨fun c => by rw [c], fun c => (List.cons.inj c).2⟩
    · rw [if_neg h, decide_eq_false (fun c => h (List.cons.inj c).1)]

theorem eqIntS_ok (a b : List Int) (f : Nat) (hl : a.length ≤ 17592186044416) (hf : a.length + 2 ≤ f) : laws_eqIntS.f f a b = some (decide (a = b)) := by
  unfold laws_eqIntS.f
  by_cases h : (a.length : Int) = (b.length : Int)
  · rw [if_pos h]
    have := eqIntS_l0 a b (by omega) hl a.length 0 f (by omega) (by omega)
    rw [List.drop_zero, List.drop_zero] at this
    exact this
  · rw [if_neg h, decide_eq_false (fun c => h (by rw [c]))]

theorem l1In_ok (a b c : Int) : spec_l1In.f a b c = some (decide (b ≤ a ∧ a ≤ c)) := by
  unfold spec_l1In.f
  by_cases h : a ≥ b
  · rw [if_pos h]; simp [h]
  · rw [if_neg h]; simp; omega

/-- from some number of rounds on it tells r -/
def E {α : Type} (g : Nat → Option α) (r : α) : Prop := ∃ K, ∀ k, K ≤ k → g k = some r

theorem E.now {α : Type} (r : α) : E (fun _ => some r) r := ⟨0, fun _ _ => rfl⟩
theorem E.const {α : Type} {g : Option α} {r : α} (e : g = some r) : E (fun _ => g) r := ⟨0, fun _ _ => e⟩
theorem E.from_ {α : Type} {g : Nat → Option α} {r : α} (K : Nat) (h : ∀ k, K ≤ k → g k = some r) : E g r := ⟨K, h⟩
theorem E.bind {α β : Type} {g : Nat → Option α} {f : Nat → α → Option β} {a : α} {r : β} (h : E g a) (k : E (fun n => f n a) r) : E (fun n => (g n).bind (f n)) r := by
  obtain ⟨K, hK⟩ := h
  obtain ⟨L, hL⟩ := k
  exact ⟨K + L, fun n hn => by show (g n).bind (f n) = _; rw [hK n (by omega)]; exact hL n (by omega)⟩
theorem E.up {α : Type} {g : Nat → Option α} {r : α} (h : E (fun k => g (k + 1)) r) : E g r := by
  obtain ⟨K, hK⟩ := h
  refine ⟨K + 1, fun n hn => ?_⟩
  obtain ⟨n, rfl⟩ : ∃ m, n = m + 1 := ⟨n - 1, by omega⟩
  exact hK n (by omega)
theorem E.ifp {α : Type} {c : Prop} [Decidable c] {g f : Nat → Option α} {r : α} (h : c) (d : E g r) : E (fun k => if c then g k else f k) r := by
  simp only [if_pos h]; exact d
theorem E.ifn {α : Type} {c : Prop} [Decidable c] {g f : Nat → Option α} {r : α} (h : ¬ c) (d : E f r) : E (fun k => if c then g k else f k) r := by
  simp only [if_neg h]; exact d
theorem E.use {α : Type} {g : Nat → Option α} {r : α} (h : E g r) : ∃ k, g k = some r := by
  obtain ⟨K, hK⟩ := h
  exact ⟨K, hK K (Nat.le_refl _)⟩

/-- terms, as trees -/
inductive Tm where
  | col (c : Int)
  | any
  | thn (a b : Tm)
  | orr (a b : Tm)

/-- the marks of a term, the last one behind both parts -/
def Tm.ms : Tm → List S34
  | .col c => [⟨0, c⟩]
  | .any => [⟨1, 0⟩]
  | .thn a b => a.ms ++ b.ms ++ [⟨2, 0⟩]
  | .orr a b => a.ms ++ b.ms ++ [⟨3, 0⟩]

def Tm.len : Tm → Nat
  | .col _ => 1
  | .any => 1
  | .thn a b => a.len + b.len
  | .orr a _ => a.len

def Tm.ok (c : Int) : Tm → Prop
  | .col k => 0 ≤ k ∧ k < c
  | .any => True
  | .thn a b => a.ok c ∧ b.ok c ∧ a.len + b.len ≤ 6
  | .orr a b => a.ok c ∧ b.ok c ∧ a.len = b.len

theorem Tm.len_pos (t : Tm) : 1 ≤ t.len := by
  induction t with
  | col c => exact Nat.le_refl _
  | any => exact Nat.le_refl _
  | thn a b iha _ => simp only [Tm.len]; omega
  | orr a b iha _ => simp only [Tm.len]; omega

theorem Tm.len_le {c : Int} (t : Tm) (h : t.ok c) : t.len ≤ 6 := by
  induction t with
  | col c => simp [Tm.len]
  | any => simp [Tm.len]
  | thn a b _ _ => exact h.2.2
  | orr a b iha _ => exact iha h.1

theorem Tm.ms_pos (t : Tm) : 1 ≤ t.ms.length := by
  cases t <;> simp [Tm.ms] <;> omega

/-- one mark behind a stack of lengths -/
def stp (c : Int) (st : List Int) (m : S34) : Option (List Int) :=
  if m.f0 = 0 then (if 0 ≤ m.f1 ∧ m.f1 < c then some (st ++ [1]) else none)
  else if m.f0 = 1 then (if m.f1 = 0 then some (st ++ [1]) else none)
  else if m.f0 = 2 then (if 2 ≤ st.length ∧ st.getD (st.length - 2) 0 + st.getD (st.length - 1) 0 ≤ 6 ∧ m.f1 = 0 then some (st.take (st.length - 2) ++ [st.getD (st.length - 2) 0 + st.getD (st.length - 1) 0]) else none)
  else if m.f0 = 3 then (if 2 ≤ st.length ∧ st.getD (st.length - 2) 0 = st.getD (st.length - 1) 0 ∧ m.f1 = 0 then some (st.take (st.length - 1)) else none)
  else none

def runS (c : Int) : List Int → List S34 → Option (List Int)
  | st, [] => some st
  | st, m :: l => (stp c st m).bind fun st' => runS c st' l

def runB (o : Option (List Int)) : Bool := match o with
  | some st => decide (st.length = 1)
  | none => false

def termB (c : Int) (l : List S34) : Bool := decide (1 ≤ c ∧ c ≤ 3) && decide (l.length ≤ 15) && runB (runS c [] l)

theorem last_two {α : Type} (l : List α) (h : 2 ≤ l.length) : ∃ l0 a b, l = l0 ++ [a, b] := by
  have hr : ∃ b a l0, l.reverse = b :: a :: l0 := by
    match e : l.reverse with
    | [] => have : l.length = 0 := by rw [← List.length_reverse, e]; rfl
            omega
    | [x] => have : l.length = 1 := by rw [← List.length_reverse, e]; rfl
             omega
    | b :: a :: l0 => exact ⟨b, a, l0, rfl⟩
  obtain ⟨b, a, l0, e⟩ := hr
  refine ⟨l0.reverse, a, b, ?_⟩
  have := congrArg List.reverse e
  rw [List.reverse_reverse] at this
  rw [this]; simp

theorem getD_snoc2 (l : List Int) (x y : Int) : (l ++ [x, y]).getD ((l ++ [x, y]).length - 2) 0 = x ∧ (l ++ [x, y]).getD ((l ++ [x, y]).length - 1) 0 = y := by
  constructor
  · rw [List.getD_eq_getElem?_getD, List.length_append, List.getElem?_append_right (by simp)]; simp
  · rw [List.getD_eq_getElem?_getD, List.length_append, List.getElem?_append_right (by simp)]
    rw [show l.length + [x, y].length - 1 - l.length = 1 by simp]; rfl

theorem take_snoc2 (l : List Int) (x y : Int) : (l ++ [x, y]).take ((l ++ [x, y]).length - 2) = l ∧ (l ++ [x, y]).take ((l ++ [x, y]).length - 1) = l ++ [x] := by
  constructor
  · rw [show (l ++ [x, y]).length - 2 = l.length by simp, List.take_left]
  · rw [show l ++ [x, y] = (l ++ [x]) ++ [y] by simp, show ((l ++ [x]) ++ [y]).length - 1 = (l ++ [x]).length by simp, List.take_left]

def lens (ts : List Tm) : List Int := ts.map fun t => (t.len : Int)
def marks (ts : List Tm) : List S34 := (ts.map Tm.ms).flatten

theorem marks_snoc (ts : List Tm) (t : Tm) : marks (ts ++ [t]) = marks ts ++ t.ms := by simp [marks]
theorem lens_snoc (ts : List Tm) (t : Tm) : lens (ts ++ [t]) = lens ts ++ [(t.len : Int)] := by simp [lens]

/-- what a stack of lengths is of: terms -/
theorem runS_terms (c : Int) : ∀ (l : List S34) (ts : List Tm) (st' : List Int), (∀ t ∈ ts, t.ok c) → runS c (lens ts) l = some st' →
    ∃ ts', (∀ t ∈ ts', t.ok c) ∧ marks ts ++ l = marks ts' ∧ st' = lens ts' := by
  intro l
  induction l with
  | nil => intro ts st' ho h; exact ⟨ts, ho, by simp, (Option.some.inj h).symm⟩
  | cons m l ih =>
    intro ts st' ho h
    simp only [runS] at h
    obtain ⟨st1, h1, h2⟩ := Option.bind_eq_some_iff.1 h
    have step : ∃ ts1, (∀ t ∈ ts1, t.ok c) ∧ marks ts ++ [m] = marks ts1 ∧ st1 = lens ts1 := by
      obtain ⟨f0, f1⟩ := m
      unfold stp at h1
      simp only at h1
      split at h1
      · rename_i e; subst e
        split at h1
        · rename_i hc
          refine ⟨ts ++ [.col f1], ?_, by rw [marks_snoc]; rfl, by rw [lens_snoc]; exact (Option.some.inj h1).symm⟩
          intro t ht
          rcases List.mem_append.1 ht with ht | ht
          · exact ho t ht
          · rw [List.mem_singleton.1 ht]; exact hc
        · cases h1
      · split at h1
        · rename_i e; subst e
          split at h1
          · rename_i hc; subst hc
            refine ⟨ts ++ [.any], ?_, by rw [marks_snoc]; rfl, by rw [lens_snoc]; exact (Option.some.inj h1).symm⟩
            intro t ht
            rcases List.mem_append.1 ht with ht | ht
            · exact ho t ht
            · rw [List.mem_singleton.1 ht]; trivial
          · cases h1
        · split at h1
          · rename_i e; subst e
            split at h1
            · rename_i hc
              obtain ⟨g1, g2, rfl⟩ := hc
              obtain ⟨ts0, a, b, rfl⟩ := last_two ts (by simpa [lens] using g1)
              have el : lens (ts0 ++ [a, b]) = lens ts0 ++ [(a.len : Int), (b.len : Int)] := by simp [lens]
              rw [el] at g2 h1
              rw [(getD_snoc2 _ _ _).1, (getD_snoc2 _ _ _).2] at g2 h1
              rw [(take_snoc2 _ _ _).1] at h1
              refine ⟨ts0 ++ [.thn a b], ?_, ?_, ?_⟩
              · intro t ht
                rcases List.mem_append.1 ht with ht | ht
                · exact ho t (by simp [ht])
                · rw [List.mem_singleton.1 ht]; exact ⟨ho a (by simp), ho b (by simp), by omega⟩
              · simp [marks, Tm.ms]
              · rw [lens_snoc]; rw [← Option.some.inj h1]; simp [Tm.len]
            · cases h1
          · split at h1
            · rename_i e; subst e
              split at h1
              · rename_i hc
                obtain ⟨g1, g2, rfl⟩ := hc
                obtain ⟨ts0, a, b, rfl⟩ := last_two ts (by simpa [lens] using g1)
                have el : lens (ts0 ++ [a, b]) = lens ts0 ++ [(a.len : Int), (b.len : Int)] := by simp [lens]
                rw [el] at g2 h1
                rw [(getD_snoc2 _ _ _).1, (getD_snoc2 _ _ _).2] at g2
                rw [(take_snoc2 _ _ _).2] at h1
                refine ⟨ts0 ++ [.orr a b], ?_, ?_, ?_⟩
                · intro t ht
                  rcases List.mem_append.1 ht with ht | ht
                  · exact ho t (by simp [ht])
                  · rw [List.mem_singleton.1 ht]; exact ⟨ho a (by simp), ho b (by simp), by omega⟩
                · simp [marks, Tm.ms]
                · rw [lens_snoc]; rw [← Option.some.inj h1]; simp [Tm.len]
              · cases h1
            · cases h1
    obtain ⟨ts1, o1, m1, rfl⟩ := step
    obtain ⟨ts', o', m', e'⟩ := ih ts1 st' o1 h2
    exact ⟨ts', o', by rw [← m', ← m1]; simp, e'⟩

/-- a term's marks put its length on the stack -/
theorem runS_ms (c : Int) (t : Tm) : t.ok c → ∀ (st : List Int) (l : List S34), runS c st (t.ms ++ l) = runS c (st ++ [(t.len : Int)]) l := by
  induction t with
  | col k => intro h st l; simp only [Tm.ms, List.cons_append, List.nil_append, runS]; unfold stp; rw [if_pos rfl, if_pos (show 0 ≤ (⟨0, k⟩ : S34).f1 ∧ (⟨0, k⟩ : S34).f1 < c from h)]; rfl
  | any => intro h st l; simp only [Tm.ms, List.cons_append, List.nil_append, runS]; unfold stp; rw [if_neg (by decide), if_pos rfl, if_pos rfl]; rfl
  | thn a b iha ihb =>
    intro h st l
    simp only [Tm.ms, List.append_assoc]
    rw [iha h.1, ihb h.2.1]
    simp only [List.cons_append, List.nil_append, runS]
    have hs := getD_snoc2 st (a.len : Int) (b.len : Int)
    have hk := take_snoc2 st (a.len : Int) (b.len : Int)
    rw [show st ++ [(a.len : Int)] ++ [(b.len : Int)] = st ++ [(a.len : Int), (b.len : Int)] by simp]
    unfold stp
    rw [if_neg (by decide), if_neg (by decide), if_pos rfl, hs.1, hs.2, if_pos ⟨by simp, by have := h.2.2; omega, rfl⟩, hk.1]
    simp only [Option.bind_some, Tm.len, Int.natCast_add]
  | orr a b iha ihb =>
    intro h st l
    simp only [Tm.ms, List.append_assoc]
    rw [iha h.1, ihb h.2.1]
    simp only [List.cons_append, List.nil_append, runS]
    have hs := getD_snoc2 st (a.len : Int) (b.len : Int)
    have hk := take_snoc2 st (a.len : Int) (b.len : Int)
    rw [show st ++ [(a.len : Int)] ++ [(b.len : Int)] = st ++ [(a.len : Int), (b.len : Int)] by simp]
    unfold stp
    rw [if_neg (by decide), if_neg (by decide), if_neg (by decide), if_pos rfl, hs.1, hs.2, if_pos ⟨by simp, by rw [h.2.2], rfl⟩, hk.2]
    simp only [Option.bind_some, Tm.len]

theorem termB_some {c : Int} {l : List S34} (h : termB c l = true) : 1 ≤ c ∧ c ≤ 3 ∧ l.length ≤ 15 ∧ ∃ t : Tm, t.ok c ∧ l = t.ms := by
  unfold termB at h
  simp only [Bool.and_eq_true, decide_eq_true_eq] at h
  obtain ⟨⟨h1, h2⟩, h3⟩ := h
  unfold runB at h3
  split at h3
  · rename_i st hst
    have h4 : st.length = 1 := by simpa using h3
    obtain ⟨ts', o, m, e⟩ := runS_terms c l [] st (by simp) hst
    have hl : ts'.length = 1 := by rw [e] at h4; simpa [lens] using h4
    match ts', hl with
    | [t], _ => exact ⟨h1.1, h1.2, h2, t, o t (by simp), by simpa [marks] using m⟩
  · cases h3

theorem termB_ms {c : Int} {t : Tm} (h1 : 1 ≤ c) (h2 : c ≤ 3) (h3 : t.ms.length ≤ 15) (h : t.ok c) : termB c t.ms = true := by
  unfold termB
  have := runS_ms c t h [] []
  rw [List.append_nil] at this
  rw [this]
  simp [runS, runB, h1, h2, h3]

theorem rdM (l : List S34) (i : Nat) : rd_T34 l (i : Int) = l.getD i z34 := by unfold rd_T34; rw [Int.toNat_natCast]

theorem getD_take_ne (l : List Int) (i n : Nat) (h : i < n) : (l.take n).getD i 0 = l.getD i 0 := by
  rw [List.getD_eq_getElem?_getD, List.getD_eq_getElem?_getD, List.getElem?_take_of_lt h]

/-- a stack as the code keeps it: numbers in 0..6 -/
def okSt (st : List Int) : Prop := ∀ x ∈ st, 0 ≤ x ∧ x ≤ 6

theorem okSt_get {st : List Int} (h : okSt st) (i : Nat) : 0 ≤ st.getD i 0 ∧ st.getD i 0 ≤ 6 := by
  rw [List.getD_eq_getElem?_getD]
  cases e : st[i]? with
  | none => simp
  | some x => exact h x (List.mem_of_getElem? e)

theorem okSt_snoc {st : List Int} {x : Int} (h : okSt st) (hx : 0 ≤ x ∧ x ≤ 6) : okSt (st ++ [x]) := by
  intro y hy
  rcases List.mem_append.1 hy with hy | hy
  · exact h y hy
  · rw [List.mem_singleton.1 hy]; exact hx

theorem okSt_take {st : List Int} (h : okSt st) (n : Nat) : okSt (st.take n) := fun x hx => h x (List.mem_of_mem_take hx)

theorem set_take (st : List Int) (v : Int) (h : 2 ≤ st.length) : (st.set (st.length - 2) v).take (st.length - 1) = st.take (st.length - 2) ++ [v] := by
  rw [show st.length - 1 = (st.length - 2) + 1 by omega, List.take_succ_eq_append_getElem (by simp; omega), List.take_set_of_le (Nat.le_refl _)]
  simp

theorem impl_TermOk_l0 (c : Int) (l : List S34) (hl : l.length ≤ 1048576) : ∀ (d i f : Nat) (st : List Int), i + d = l.length → 3 * d + 3 ≤ f → st.length ≤ i → okSt st →
    impl_TermOk.l0 f c st l (l.length : Int) (i : Int) = some (runB (runS c st (l.drop i))) := by
  intro d
  induction d with
  | zero =>
    intro i f st hi hf hs ho
    obtain ⟨f, rfl⟩ : ∃ g, f = g + 1 := ⟨f - 1, by omega⟩
    simp only [impl_TermOk.l0]; rw [if_neg (by omega), List.drop_of_length_le (by omega)]
    simp only [runS, runB]
    congr 1
    rw [Bool.eq_iff_iff]; simp; omega
  | succ d ih =>
    intro i f st hi hf hs ho
    obtain ⟨f, rfl⟩ : ∃ g, f = g + 2 := ⟨f - 2, by omega⟩
    have hlen : st.length ≤ 1048576 := by omega
    have w1 : wrap64 ((i : Int) + 1) = ((i + 1 : Nat) : Int) := by rw [wr (by omega) (by omega)]; omega
    have w2 : wrap64 ((st.length : Int) - 1) = (st.length : Int) - 1 := wr (by omega) (by omega)
    have w3 : wrap64 ((st.length : Int) - 1 - 1) = (st.length : Int) - 1 - 1 := wr (by omega) (by omega)
    have em : l.drop i = l.getD i z34 :: l.drop (i + 1) := by
      rw [List.drop_eq_getElem_cons (show i < l.length by omega), List.getD_eq_getElem?_getD, List.getElem?_eq_getElem (by omega)]; rfl
    simp only [impl_TermOk.l0]
    rw [if_pos (by omega), if_pos (by omega), if_pos (by omega), rdM, w1, w2, w3, em]
    generalize l.getD i z34 = m
    simp only [runS]
    unfold stp
    have g1 := okSt_get ho (st.length - 1)
    have g2 := okSt_get ho (st.length - 2)
    by_cases k0 : m.f0 = 0
    · rw [if_pos k0, if_pos k0]
      by_cases h1 : m.f1 < 0
      · rw [if_pos h1, if_neg (by omega)]; simp only [impl_TermOk.j2, if_true]; rfl
      rw [if_neg h1]
      by_cases h2 : m.f1 ≥ c
      · rw [decide_eq_true h2, if_neg (by omega)]; simp only [impl_TermOk.j2, if_true]; rfl
      · rw [decide_eq_false h2, if_pos (by omega)]; simp only [impl_TermOk.j2, Bool.false_eq_true, if_false]
        rw [if_pos (by omega), w1]; simp only [Option.bind_some]
        exact ih (i + 1) f (st ++ [1]) (by omega) (by omega) (by simp; omega) (okSt_snoc ho (by omega))
    rw [if_neg k0, if_neg k0]
    by_cases k1 : m.f0 = 1
    · rw [if_pos k1, if_pos k1, if_pos (by omega)]
      by_cases h1 : m.f1 = 0
      · rw [if_pos h1, if_pos h1]
        simp only [Option.bind_some]
        exact ih (i + 1) (f + 1) (st ++ [1]) (by omega) (by omega) (by simp; omega) (okSt_snoc ho (by omega))
      · rw [if_neg h1, if_neg h1]; rfl
    rw [if_neg k1, if_neg k1]
    by_cases k2 : m.f0 = 2
    · rw [if_pos k2, if_pos k2]
      by_cases h2 : 2 ≤ st.length
      · have r1 : rd st ((st.length : Int) - 1 - 1) = st.getD (st.length - 2) 0 := by rw [show (st.length : Int) - 1 - 1 = ((st.length - 2 : Nat) : Int) by omega]; exact rd_getD _ _
        have r2 : rd st ((st.length : Int) - 1) = st.getD (st.length - 1) 0 := by rw [show (st.length : Int) - 1 = ((st.length - 1 : Nat) : Int) by omega]; exact rd_getD _ _
        rw [if_neg (show ¬ (st.length : Int) - 1 < 1 by omega), if_pos (show 0 ≤ (st.length : Int) - 1 - 1 by omega), if_pos (show (st.length : Int) - 1 - 1 < (st.length : Int) by omega), if_pos (show 0 ≤ (st.length : Int) - 1 by omega), if_pos (show (st.length : Int) - 1 < (st.length : Int) by omega), r1, r2, wr (n := st.getD (st.length - 2) 0 + st.getD (st.length - 1) 0) (by omega) (by omega)]
        by_cases h6 : st.getD (st.length - 2) 0 + st.getD (st.length - 1) 0 > 6
        · rw [decide_eq_true h6, if_neg (by omega)]; simp only [impl_TermOk.j3, if_true]; rfl
        · rw [decide_eq_false h6]; simp only [impl_TermOk.j3, Bool.false_eq_true, if_false]
          rw [w3, if_pos (show 0 ≤ (st.length : Int) - 1 - 1 by omega), if_pos (show (st.length : Int) - 1 - 1 < (st.length : Int) by omega), if_pos (show 0 ≤ (st.length : Int) - 1 by omega), if_pos (show (st.length : Int) - 1 < (st.length : Int) by omega), if_pos (show (st.length : Int) - 1 ≤ (st.length : Int) by omega), r1, r2, wr (n := st.getD (st.length - 2) 0 + st.getD (st.length - 1) 0) (by omega) (by omega)]
          by_cases h0 : m.f1 = 0
          · rw [if_pos h0, if_pos ⟨h2, by omega, h0⟩, show ((st.length : Int) - 1 - 1).toNat = st.length - 2 by omega, show ((st.length : Int) - 1).toNat = st.length - 1 by omega, set_take _ _ h2, w1]; simp only [Option.bind_some]
            exact ih (i + 1) f _ (by omega) (by omega) (by simp; omega) (okSt_snoc (okSt_take ho _) (by omega))
          · rw [if_neg h0, if_neg (fun x => h0 x.2.2)]; rfl
      · rw [if_pos (show (st.length : Int) - 1 < 1 by omega), if_neg (fun x => h2 x.1)]; simp only [impl_TermOk.j3, if_true]; rfl
    rw [if_neg k2, if_neg k2]
    by_cases k3 : m.f0 = 3
    · rw [if_pos k3, if_pos k3]
      by_cases h2 : 2 ≤ st.length
      · have r1 : rd st ((st.length : Int) - 1 - 1) = st.getD (st.length - 2) 0 := by rw [show (st.length : Int) - 1 - 1 = ((st.length - 2 : Nat) : Int) by omega]; exact rd_getD _ _
        have r2 : rd st ((st.length : Int) - 1) = st.getD (st.length - 1) 0 := by rw [show (st.length : Int) - 1 = ((st.length - 1 : Nat) : Int) by omega]; exact rd_getD _ _
        rw [if_neg (show ¬ (st.length : Int) - 1 < 1 by omega), if_pos (show 0 ≤ (st.length : Int) - 1 - 1 by omega), if_pos (show (st.length : Int) - 1 - 1 < (st.length : Int) by omega), if_pos (show 0 ≤ (st.length : Int) - 1 by omega), if_pos (show (st.length : Int) - 1 < (st.length : Int) by omega), r1, r2]
        by_cases h6 : st.getD (st.length - 2) 0 = st.getD (st.length - 1) 0
        · rw [h6, bne_self_eq_false]; simp only [impl_TermOk.j4, Bool.false_eq_true, if_false]
          rw [if_pos (show 0 ≤ (st.length : Int) - 1 by omega), if_pos (show (st.length : Int) - 1 ≤ (st.length : Int) by omega)]
          by_cases h0 : m.f1 = 0
          · rw [if_pos h0, if_pos ⟨h2, (by first | trivial | rfl), h0⟩, show ((st.length : Int) - 1).toNat = st.length - 1 by omega, w1]; simp only [Option.bind_some]
            exact ih (i + 1) f _ (by omega) (by omega) (by simp; omega) (okSt_take ho _)
          · rw [if_neg h0, if_neg (fun x => h0 x.2.2)]; rfl
        · rw [show (st.getD (st.length - 2) 0 != st.getD (st.length - 1) 0) = true by simpa using h6, if_neg (fun x => h6 x.2.1)]; simp only [impl_TermOk.j4, if_true]; rfl
      · rw [if_pos (show (st.length : Int) - 1 < 1 by omega), if_neg (fun x => h2 x.1)]; simp only [impl_TermOk.j4, if_true]; rfl
    · rw [if_neg k3, if_neg k3]; rfl

theorem impl_TermOk_ok (c : Int) (l : List S34) (f : Nat) (hl : l.length ≤ 1048576) (hf : 3 * l.length + 10 ≤ f) : impl_TermOk.f f c l = some (termB c l) := by
  obtain ⟨f, rfl⟩ : ∃ g, f = g + 1 := ⟨f - 1, by omega⟩
  have e : impl_TermOk.j0 (f + 1) c l true = some false := by simp only [impl_TermOk.j0, if_true]
  unfold impl_TermOk.f impl_coloursOk.f termB
  by_cases h1 : c ≥ 1
  · rw [if_pos h1]; simp only [Option.bind_some]
    by_cases h2 : c ≤ 3
    · rw [if_pos (decide_eq_true h2), decide_eq_true (show 1 ≤ c ∧ c ≤ 3 from ⟨h1, h2⟩), Bool.true_and]
      by_cases h3 : (l.length : Int) < 1
      · rw [if_pos h3, e]
        have : l = [] := List.eq_nil_of_length_eq_zero (by omega)
        subst this; rfl
      · rw [if_neg h3]
        by_cases h4 : (l.length : Int) > 15
        · rw [decide_eq_true h4, e, decide_eq_false (by omega)]; rfl
        · rw [decide_eq_false h4, decide_eq_true (by omega)]; simp only [impl_TermOk.j0, Bool.false_eq_true, if_false]
          have := impl_TermOk_l0 c l hl l.length 0 f [] (by omega) (by omega) (by simp) (fun x hx => by simp at hx)
          rw [List.drop_zero] at this
          rw [Bool.true_and]
          exact this
    · rw [decide_eq_false h2, if_neg (by decide), e, decide_eq_false (by omega)]; rfl
  · rw [if_neg h1]; simp only [Option.bind_some]
    rw [if_neg (by decide), e, decide_eq_false (by omega)]; rfl

theorem spec_TermOk_l0 (c : Int) (l : List S34) (hl : l.length ≤ 1048576) : ∀ (d i f : Nat) (st : List Int), i + d = l.length → 3 * d + 3 ≤ f → st.length ≤ i → okSt st →
    spec_TermOk.l0 f c l st (i : Int) = some (decide (1 ≤ c ∧ c ≤ 3) && decide (l.length ≤ 15) && runB (runS c st (l.drop i))) := by
  intro d
  induction d with
  | zero =>
    intro i f st hi hf hs ho
    obtain ⟨f, rfl⟩ : ∃ g, f = g + 1 := ⟨f - 1, by omega⟩
    simp only [spec_TermOk.l0]; rw [if_neg (by omega), List.drop_of_length_le (by omega), l1In_ok]
    simp only [runS, runB, Option.bind_some]
    by_cases hc : 1 ≤ c ∧ c ≤ 3
    · rw [if_pos (decide_eq_true hc), decide_eq_true hc, Bool.true_and]
      by_cases h1 : (st.length : Int) = 1
      · rw [if_pos h1, decide_eq_true (show st.length = 1 by omega), Bool.and_true]; congr 1; apply decide_eq_decide.2; omega
      · rw [if_neg h1, decide_eq_false (show ¬ st.length = 1 by omega), Bool.and_false]
    · rw [decide_eq_false hc, if_neg (by decide)]; rfl
  | succ d ih =>
    intro i f st hi hf hs ho
    obtain ⟨f, rfl⟩ : ∃ g, f = g + 3 := ⟨f - 3, by omega⟩
    have hlen : st.length ≤ 1048576 := by omega
    have w1 : wrap64 ((i : Int) + 1) = ((i + 1 : Nat) : Int) := by rw [wr (by omega) (by omega)]; omega
    have w2 : wrap64 ((st.length : Int) - 1) = (st.length : Int) - 1 := wr (by omega) (by omega)
    have w3 : wrap64 ((st.length : Int) - 1 - 1) = (st.length : Int) - 1 - 1 := wr (by omega) (by omega)
    have em : l.drop i = l.getD i z34 :: l.drop (i + 1) := by
      rw [List.drop_eq_getElem_cons (show i < l.length by omega), List.getD_eq_getElem?_getD, List.getElem?_eq_getElem (by omega)]; rfl
    have g1 := okSt_get ho (st.length - 1)
    have g2 := okSt_get ho (st.length - 2)
    have hnone : some false = some (decide (1 ≤ c ∧ c ≤ 3) && decide (l.length ≤ 15) && runB none) := by simp [runB]
    have push : ∀ x7, spec_TermOk.j1 (f + 2) c l st (i : Int) x7 true = some (decide (1 ≤ c ∧ c ≤ 3) && decide (l.length ≤ 15) && runB (runS c (st ++ [1]) (l.drop (i + 1)))) := by
      intro x7
      simp only [spec_TermOk.j1, if_true]
      rw [if_pos (by omega), w1]
      exact ih (i + 1) (f + 1) (st ++ [1]) (by omega) (by omega) (by simp; omega) (okSt_snoc ho (by omega))
    have r1 : 2 ≤ st.length → rd st ((st.length : Int) - 1 - 1) = st.getD (st.length - 2) 0 := fun h => by rw [show (st.length : Int) - 1 - 1 = ((st.length - 2 : Nat) : Int) by omega]; exact rd_getD _ _
    have r2 : 2 ≤ st.length → rd st ((st.length : Int) - 1) = st.getD (st.length - 1) 0 := fun h => by rw [show (st.length : Int) - 1 = ((st.length - 1 : Nat) : Int) by omega]; exact rd_getD _ _
    have hj2 : ∀ (m : S34), l.getD i z34 = m → m.f0 ≠ 2 ∨ m.f1 ≠ 0 ∨ st.length < 2 ∨ st.getD (st.length - 2) 0 + st.getD (st.length - 1) 0 > 6 → m.f0 ≠ 0 → m.f0 ≠ 1 → m.f0 ≠ 2 →
        spec_TermOk.j2 (f + 1) c l st (i : Int) ((st.length : Int) - 1) false = some (decide (1 ≤ c ∧ c ≤ 3) && decide (l.length ≤ 15) && runB ((stp c st m).bind fun st' => runS c st' (l.drop (i + 1)))) := by
      intro m hm _ k0 k1 k2
      simp only [spec_TermOk.j2, Bool.false_eq_true, if_false]
      rw [if_pos (by omega), if_pos (by omega), rdM, hm]
      unfold stp
      rw [if_neg k0, if_neg k1, if_neg k2]
      by_cases h3 : m.f0 = 3 ∧ m.f1 = 0
      · rw [if_pos (show (m.f0 == 3 && m.f1 == 0) = true by simp [h3.1, h3.2]), if_pos h3.1]
        by_cases h2 : 2 ≤ st.length
        · rw [if_pos (by omega), w3, if_pos (by omega), if_pos (by omega), if_pos (by omega), if_pos (by omega), r1 h2, r2 h2]
          by_cases he : st.getD (st.length - 2) 0 = st.getD (st.length - 1) 0
          · rw [if_pos he, if_pos (by omega), if_pos ⟨h2, he, h3.2⟩, w1, show ((st.length : Int) - 1).toNat = st.length - 1 by omega]
            simp only [Option.bind_some]
            exact ih (i + 1) f _ (by omega) (by omega) (by simp; omega) (okSt_take ho _)
          · rw [if_neg he, if_neg (fun x => he x.2.1)]; exact hnone
        · rw [if_neg (by omega), if_neg (fun x => h2 x.1)]; exact hnone
      · rw [if_neg (show ¬ (m.f0 == 3 && m.f1 == 0) = true by simpa using h3)]
        by_cases e3 : m.f0 = 3
        · rw [if_pos e3, if_neg (fun x => h3 ⟨e3, x.2.2⟩)]; exact hnone
        · rw [if_neg e3]; exact hnone
    have hj2' : ∀ (m : S34), l.getD i z34 = m → m.f0 = 2 → stp c st m = none → spec_TermOk.j2 (f + 1) c l st (i : Int) ((st.length : Int) - 1) false = some false := by
      intro m hm k2 _
      simp only [spec_TermOk.j2, Bool.false_eq_true, if_false]
      rw [if_pos (by omega), if_pos (by omega), rdM, hm, if_neg (by simp [k2])]
    simp only [spec_TermOk.l0]
    rw [if_pos (by omega), if_pos (by omega), rdM, w2, em]
    simp only [runS]
    generalize hm : l.getD i z34 = m
    by_cases k0 : m.f0 = 0
    · rw [if_pos k0]
      have no : ∀ b, b = false → spec_TermOk.j1 (f + 2) c l st (i : Int) ((st.length : Int) - 1) b = some false := by
        intro b hb; subst hb
        simp only [spec_TermOk.j1, Bool.false_eq_true, if_false]
        rw [if_pos (by omega), if_pos (by omega), rdM, hm, if_neg (by simp [k0])]
        simp only [spec_TermOk.j2, Bool.false_eq_true, if_false]
        rw [if_pos (by omega), if_pos (by omega), rdM, hm, if_neg (by simp [k0])]
      unfold stp
      rw [if_pos k0]
      by_cases h1 : m.f1 ≥ 0
      · rw [if_pos h1]
        by_cases h2 : m.f1 < c
        · rw [if_pos h2, push, if_pos ⟨h1, h2⟩]; rfl
        · rw [if_neg h2, no _ (by simp [k0]), if_neg (by omega)]; exact hnone
      · rw [if_neg h1, no _ (by simp [k0]), if_neg (by omega)]; exact hnone
    rw [if_neg k0]
    by_cases k1 : m.f0 = 1 ∧ m.f1 = 0
    · rw [show (m.f0 == 1 && m.f1 == 0) = true by simp [k1.1, k1.2], push]
      unfold stp
      rw [if_neg k0, if_pos k1.1, if_pos k1.2]; rfl
    rw [show (m.f0 == 1 && m.f1 == 0) = false by simpa using k1]
    simp only [spec_TermOk.j1, Bool.false_eq_true, if_false]
    rw [if_pos (by omega), if_pos (by omega), rdM, hm]
    by_cases k2 : m.f0 = 2 ∧ m.f1 = 0
    · rw [if_pos (show (m.f0 == 2 && m.f1 == 0) = true by simp [k2.1, k2.2])]
      have es : stp c st m = if 2 ≤ st.length ∧ st.getD (st.length - 2) 0 + st.getD (st.length - 1) 0 ≤ 6 ∧ m.f1 = 0 then some (st.take (st.length - 2) ++ [st.getD (st.length - 2) 0 + st.getD (st.length - 1) 0]) else none := by
        unfold stp; rw [if_neg k0, if_neg (by omega), if_pos k2.1]
      by_cases h2 : 2 ≤ st.length
      · rw [if_pos (by omega), w3, if_pos (by omega), if_pos (by omega), if_pos (by omega), if_pos (by omega), r1 h2, r2 h2, wr (n := st.getD (st.length - 2) 0 + st.getD (st.length - 1) 0) (by omega) (by omega)]
        by_cases h6 : st.getD (st.length - 2) 0 + st.getD (st.length - 1) 0 ≤ 6
        · rw [decide_eq_true h6, es, if_pos ⟨h2, h6, k2.2⟩]
          simp only [spec_TermOk.j2, if_true, Option.bind_some, List.nil_append, List.length_nil, Nat.zero_add]
          rw [w3, if_pos (by omega), if_pos (by omega), if_pos (by omega), if_pos (by omega), if_pos (by omega), show ((st.length : Int) - 1 - 1).toNat = st.length - 2 by omega, if_pos (by simp; omega), if_pos (by simp; omega), r1 h2, r2 h2, wr (n := st.getD (st.length - 2) 0 + st.getD (st.length - 1) 0) (by omega) (by omega), w1]
          exact ih (i + 1) f _ (by omega) (by omega) (by simp; omega) (okSt_snoc (okSt_take ho _) (by omega))
        · rw [decide_eq_false h6, hj2' m hm k2.1 (by rw [es, if_neg (fun x => h6 x.2.1)]), es, if_neg (fun x => h6 x.2.1)]; exact hnone
      · rw [if_neg (by omega), hj2' m hm k2.1 (by rw [es, if_neg (fun x => h2 x.1)]), es, if_neg (fun x => h2 x.1)]; exact hnone
    · rw [if_neg (show ¬ (m.f0 == 2 && m.f1 == 0) = true by simpa using k2)]
      by_cases e2 : m.f0 = 2
      · have es : stp c st m = none := by
          unfold stp; rw [if_neg k0, if_neg (by omega), if_pos e2, if_neg (fun x => k2 ⟨e2, x.2.2⟩)]
        rw [hj2' m hm e2 es, es]; exact hnone
      · by_cases e1 : m.f0 = 1
        · have es : stp c st m = none := by
            unfold stp; rw [if_neg k0, if_pos e1, if_neg (fun x => k1 ⟨e1, x⟩)]
          rw [es]
          simp only [spec_TermOk.j2, Bool.false_eq_true, if_false]
          rw [if_pos (by omega), if_pos (by omega), rdM, hm, if_neg (by simp [e1])]; exact hnone
        · exact hj2 m hm (.inl e2) k0 e1 e2

theorem spec_TermOk_ok (c : Int) (l : List S34) (f : Nat) (hl : l.length ≤ 1048576) (hf : 3 * l.length + 10 ≤ f) : spec_TermOk.f f c l = some (termB c l) := by
  unfold spec_TermOk.f termB
  have := spec_TermOk_l0 c l hl l.length 0 f [] (by omega) (by omega) (by simp) (fun x hx => by simp at hx)
  rw [List.drop_zero] at this
  exact this

def cv (m : S55) : S34 := ⟨m.f0, m.f1⟩

theorem toMarkS_l0 (l : List S55) (hl : l.length ≤ 17592186044416) : ∀ (d i f : Nat) (y : List S34), i + d = l.length → d < f → y.length = l.length → y.take i = (l.map cv).take i →
    laws_toMarkS.l0 f l y (i : Int) = some (l.map cv) := by
  intro d
  induction d with
  | zero =>
    intro i f y hi hf hy ht
    obtain ⟨f, rfl⟩ : ∃ g, f = g + 1 := ⟨f - 1, by omega⟩
    simp only [laws_toMarkS.l0]; rw [if_neg (by omega)]
    rw [List.take_of_length_le (by omega), List.take_of_length_le (by simp; omega)] at ht
    rw [ht]
  | succ d ih =>
    intro i f y hi hf hy ht
    obtain ⟨f, rfl⟩ : ∃ g, f = g + 1 := ⟨f - 1, by omega⟩
    have er : rd_T55 l (i : Int) = l[i]'(by omega) := by
      unfold rd_T55; rw [Int.toNat_natCast, List.getD_eq_getElem?_getD, List.getElem?_eq_getElem (by omega)]; rfl
    simp only [laws_toMarkS.l0, laws_toMark.f, Option.bind_some]
    rw [if_pos (by omega), if_pos (by omega), if_pos (by omega), Int.toNat_natCast, er, wr (by omega) (by omega)]
    refine ih (i + 1) f _ (by omega) (by omega) (by simpa using hy) ?_
    rw [List.take_succ_eq_append_getElem (by simp; omega), List.take_succ_eq_append_getElem (by simp; omega)]
    rw [List.take_set_of_le (by omega), ht]
    simp [cv]

theorem toMarkS_ok (l : List S55) (f : Nat) (hl : l.length ≤ 17592186044416) (hf : l.length + 2 ≤ f) : laws_toMarkS.f f l = some (l.map cv) := by
  unfold laws_toMarkS.f
  rw [if_pos (by omega), Int.toNat_natCast, if_pos (by omega)]
  exact toMarkS_l0 l hl l.length 0 f _ (by omega) (by omega) (by simp) rfl

theorem eqMarkS_l0 (a : List S34) (hl : a.length ≤ 17592186044416) : ∀ (d i f : Nat), i + d = a.length → d < f → laws_eqMarkS.l0 f a a (i : Int) = some true := by
  intro d
  induction d with
  | zero =>
    intro i f hi hf
    obtain ⟨f, rfl⟩ : ∃ g, f = g + 1 := ⟨f - 1, by omega⟩
    simp only [laws_eqMarkS.l0]; rw [if_neg (by omega)]
  | succ d ih =>
    intro i f hi hf
    obtain ⟨f, rfl⟩ : ∃ g, f = g + 1 := ⟨f - 1, by omega⟩
    simp only [laws_eqMarkS.l0, laws_eqMark.f]
    rw [if_pos (by omega), if_pos (by omega), if_pos (by omega), if_true, if_true, wr (by omega) (by omega)]
    exact ih (i + 1) f (by omega) (by omega)

theorem eqMarkS_ok (a : List S34) (f : Nat) (hl : a.length ≤ 17592186044416) (hf : a.length + 2 ≤ f) : laws_eqMarkS.f f a a = some true := by
  unfold laws_eqMarkS.f
  rw [if_pos rfl]
  exact eqMarkS_l0 a hl a.length 0 f (by omega) (by omega)

theorem szMarkS_ok (l : List S55) (n : Int) (hn : 0 ≤ n ∧ n ≤ 1048576) (hl : l.length ≤ 9223372036854775807) : laws_szMarkS.f l n = some (if n - (l.length : Int) < 0 then -1 else n - (l.length : Int)) := by
  unfold laws_szMarkS.f
  rw [wr (by omega) (by omega)]
  split <;> rfl

theorem rd_mid (p : List S34) (m : S34) (q : List S34) : rd_T34 (p ++ m :: q) (p.length : Int) = m := by
  rw [rdM, List.getD_eq_getElem?_getD, List.getElem?_append_right (Nat.le_refl _)]; simp

theorem rd_mid' (L p : List S34) (m : S34) (q : List S34) (h : L = p ++ m :: q) (i : Int) (hi : i = (p.length : Int)) : rd_T34 L i = m := by
  subst h; subst hi; exact rd_mid p m q

/-- the last mark -/
def Tm.kind : Tm → Int
  | .col _ => 0
  | .any => 1
  | .thn _ _ => 2
  | .orr _ _ => 3

theorem Tm.last_kind (t : Tm) : rd_T34 t.ms ((t.ms.length : Int) - 1) = ⟨t.kind, (match t with | .col c => c | _ => 0)⟩ := by
  cases t with
  | col c => rfl
  | any => rfl
  | thn a b =>
    refine rd_mid' _ (a.ms ++ b.ms) ⟨2, 0⟩ [] rfl _ ?_
    simp [Tm.ms]; omega
  | orr a b =>
    refine rd_mid' _ (a.ms ++ b.ms) ⟨3, 0⟩ [] rfl _ ?_
    simp [Tm.ms]; omega

theorem lastKind_ok (t : Tm) (h : t.ms.length ≤ 1048576) : impl_lastKind.f t.ms = some t.kind := by
  have hp := t.ms_pos
  unfold impl_lastKind.f
  rw [wr (by omega) (by omega), if_pos (by omega), if_pos (by omega), t.last_kind]

/-- behind a part the count is one less, in front of it -/
theorem halves_scan (L : List S34) (hL : L.length ≤ 1048576) (x4 : Int) (hx4 : 0 ≤ x4 ∧ x4 ≤ L.length) (R : List S34 × List S34) : ∀ (t : Tm) (p q : List S34) (n : Nat), n + t.ms.length ≤ 1048576 → L = p ++ t.ms ++ q →
    (n = 0 → (p.length : Int) ≤ x4 ∧ R = (L.take p.length, (L.take x4.toNat).drop p.length)) → (0 < n → E (fun k => impl_halves.l0 k L x4 (n : Int) ((p.length : Int) - 1)) R) →
    E (fun k => impl_halves.l0 k L x4 ((n + 1 : Nat) : Int) ((p.length : Int) + (t.ms.length : Int) - 1)) R := by
  intro t
  have leaf : ∀ (m : S34) (p q : List S34) (n : Nat), m.f0 = 0 ∨ m.f0 = 1 → n ≤ 1048576 → L = p ++ m :: q →
      (n = 0 → (p.length : Int) ≤ x4 ∧ R = (L.take p.length, (L.take x4.toNat).drop p.length)) → (0 < n → E (fun k => impl_halves.l0 k L x4 (n : Int) ((p.length : Int) - 1)) R) →
      E (fun k => impl_halves.l0 k L x4 ((n + 1 : Nat) : Int) (p.length : Int)) R := by
    intro m p q n hm hn hLe h0 h1
    have hlen : p.length < L.length := by rw [hLe]; simp
    refine E.up ?_
    simp only [impl_halves.l0]
    refine E.ifp (by omega) (E.ifp (by omega) ?_)
    rw [rd_mid' L p m q hLe _ rfl]
    refine E.ifn (by omega) ?_
    refine E.up ?_
    have hk : (m.f0 == 3) = false := by simp; omega
    simp only [impl_halves.j1, hk, Bool.false_eq_true, if_false]
    rw [wr (n := ((n + 1 : Nat) : Int) - 1) (by omega) (by omega), wr (n := (p.length : Int) - 1) (by omega) (by omega), show ((n + 1 : Nat) : Int) - 1 = (n : Int) by omega]
    by_cases hz : n = 0
    · refine E.ifp (by omega) (E.ifp (by omega) (E.ifp (by omega) (E.ifp (h0 hz).1 (E.ifp (by omega) ?_))))
      rw [Int.toNat_natCast, (h0 hz).2]
      exact E.now _
    · exact E.ifn (by omega) (h1 (by omega))
  have op : ∀ (m : S34) (p q : List S34) (n : Nat), m.f0 = 2 ∨ m.f0 = 3 → n + 2 ≤ 1048578 → L = p ++ m :: q →
      E (fun k => impl_halves.l0 k L x4 ((n + 2 : Nat) : Int) ((p.length : Int) - 1)) R → E (fun k => impl_halves.l0 k L x4 ((n + 1 : Nat) : Int) (p.length : Int)) R := by
    intro m p q n hm hn hLe h
    have hlen : p.length < L.length := by rw [hLe]; simp
    refine E.up ?_
    simp only [impl_halves.l0]
    refine E.ifp (by omega) (E.ifp (by omega) ?_)
    rw [rd_mid' L p m q hLe _ rfl]
    have fin : E (fun k => impl_halves.j1 k L x4 ((n + 1 : Nat) : Int) (p.length : Int) true) R := by
      refine E.up ?_
      simp only [impl_halves.j1, if_true]
      rw [wr (n := ((n + 1 : Nat) : Int) + 1) (by omega) (by omega), wr (n := (p.length : Int) - 1) (by omega) (by omega), show ((n + 1 : Nat) : Int) + 1 = ((n + 2 : Nat) : Int) by omega]
      exact E.ifn (by omega) h
    rcases hm with hm | hm
    · exact E.ifp hm fin
    · refine E.ifn (by omega) ?_
      rw [show (m.f0 == 3) = true by simp [hm]]; exact fin
  induction t with
  | col c =>
    intro p q n hn hLe h0 h1
    have := leaf ⟨0, c⟩ p q n (.inl rfl) (by omega) (by rw [hLe]; simp [Tm.ms]) h0 h1
    simpa [Tm.ms] using this
  | any =>
    intro p q n hn hLe h0 h1
    have := leaf ⟨1, 0⟩ p q n (.inr rfl) (by omega) (by rw [hLe]; simp [Tm.ms]) h0 h1
    simpa [Tm.ms] using this
  | thn a b iha ihb =>
    intro p q n hn hLe h0 h1
    have hb := b.ms_pos
    have ha := a.ms_pos
    have hLl : L.length = p.length + (a.ms.length + b.ms.length + 1) + q.length := by rw [hLe]; simp [Tm.ms]; omega
    have ea := iha p (b.ms ++ ⟨2, 0⟩ :: q) n (by simp [Tm.ms] at hn; omega) (by rw [hLe]; simp [Tm.ms]) h0 h1
    have eb := ihb (p ++ a.ms) (⟨2, 0⟩ :: q) (n + 1) (by simp [Tm.ms] at hn; omega) (by rw [hLe]; simp [Tm.ms]) (fun c => by omega) (fun _ => by
      rw [show (((p ++ a.ms).length : Nat) : Int) - 1 = (p.length : Int) + (a.ms.length : Int) - 1 by simp]
      exact ea)
    have key := op ⟨2, 0⟩ (p ++ a.ms ++ b.ms) q n (.inl rfl) (by simp [Tm.ms] at hn; omega) (by rw [hLe]; simp [Tm.ms]) (by
      rw [show (((p ++ a.ms ++ b.ms).length : Nat) : Int) - 1 = ((p ++ a.ms).length : Int) + (b.ms.length : Int) - 1 by simp; omega]
      exact eb)
    rw [show (p.length : Int) + ((Tm.thn a b).ms.length : Int) - 1 = ((p ++ a.ms ++ b.ms).length : Int) by simp [Tm.ms]; omega]
    exact key
  | orr a b iha ihb =>
    intro p q n hn hLe h0 h1
    have hb := b.ms_pos
    have ha := a.ms_pos
    have hLl : L.length = p.length + (a.ms.length + b.ms.length + 1) + q.length := by rw [hLe]; simp [Tm.ms]; omega
    have ea := iha p (b.ms ++ ⟨3, 0⟩ :: q) n (by simp [Tm.ms] at hn; omega) (by rw [hLe]; simp [Tm.ms]) h0 h1
    have eb := ihb (p ++ a.ms) (⟨3, 0⟩ :: q) (n + 1) (by simp [Tm.ms] at hn; omega) (by rw [hLe]; simp [Tm.ms]) (fun c => by omega) (fun _ => by
      rw [show (((p ++ a.ms).length : Nat) : Int) - 1 = (p.length : Int) + (a.ms.length : Int) - 1 by simp]
      exact ea)
    have key := op ⟨3, 0⟩ (p ++ a.ms ++ b.ms) q n (.inr rfl) (by simp [Tm.ms] at hn; omega) (by rw [hLe]; simp [Tm.ms]) (by
      rw [show (((p ++ a.ms ++ b.ms).length : Nat) : Int) - 1 = ((p ++ a.ms).length : Int) + (b.ms.length : Int) - 1 by simp; omega]
      exact eb)
    rw [show (p.length : Int) + ((Tm.orr a b).ms.length : Int) - 1 = ((p ++ a.ms ++ b.ms).length : Int) by simp [Tm.ms]; omega]
    exact key

theorem halves_thn (a b : Tm) (h : (Tm.thn a b).ms.length ≤ 1000) : E (fun k => impl_halves.f k (Tm.thn a b).ms) (a.ms, b.ms) := by
  have hl : (Tm.thn a b).ms.length = a.ms.length + b.ms.length + 1 := by simp [Tm.ms]; omega
  have hb := b.ms_pos
  unfold impl_halves.f
  rw [wr (n := ((Tm.thn a b).ms.length : Int) - 1) (by omega) (by omega), wr (n := ((Tm.thn a b).ms.length : Int) - 1 - 1) (by omega) (by omega)]
  have e : (Tm.thn a b).ms = a.ms ++ b.ms ++ [⟨2, 0⟩] := rfl
  have := halves_scan (Tm.thn a b).ms (by omega) (((Tm.thn a b).ms.length : Int) - 1) (by omega) (a.ms, b.ms) b a.ms [⟨2, 0⟩] 0 (by omega) e (fun _ => ⟨by omega, by
    rw [show (((Tm.thn a b).ms.length : Int) - 1).toNat = (a.ms ++ b.ms).length by simp; omega, e, List.take_left]
    rw [List.append_assoc, List.take_left, List.drop_left]⟩) (fun c => by omega)
  rw [show (a.ms.length : Int) + (b.ms.length : Int) - 1 = ((Tm.thn a b).ms.length : Int) - 1 - 1 by omega] at this
  exact this

theorem halves_orr (a b : Tm) (h : (Tm.orr a b).ms.length ≤ 1000) : E (fun k => impl_halves.f k (Tm.orr a b).ms) (a.ms, b.ms) := by
  have hl : (Tm.orr a b).ms.length = a.ms.length + b.ms.length + 1 := by simp [Tm.ms]; omega
  have hb := b.ms_pos
  unfold impl_halves.f
  rw [wr (n := ((Tm.orr a b).ms.length : Int) - 1) (by omega) (by omega), wr (n := ((Tm.orr a b).ms.length : Int) - 1 - 1) (by omega) (by omega)]
  have e : (Tm.orr a b).ms = a.ms ++ b.ms ++ [⟨3, 0⟩] := rfl
  have := halves_scan (Tm.orr a b).ms (by omega) (((Tm.orr a b).ms.length : Int) - 1) (by omega) (a.ms, b.ms) b a.ms [⟨3, 0⟩] 0 (by omega) e (fun _ => ⟨by omega, by
    rw [show (((Tm.orr a b).ms.length : Int) - 1).toNat = (a.ms ++ b.ms).length by simp; omega, e, List.take_left]
    rw [List.append_assoc, List.take_left, List.drop_left]⟩) (fun c => by omega)
  rw [show (a.ms.length : Int) + (b.ms.length : Int) - 1 = ((Tm.orr a b).ms.length : Int) - 1 - 1 by omega] at this
  exact this

theorem impl_lengthOf_ok {c : Int} (t : Tm) : t.ok c → t.ms.length ≤ 1000 → E (fun k => impl_lengthOf.f k t.ms) (t.len : Int) := by
  induction t with
  | col k => intro _ h; refine E.up ?_; simp only [impl_lengthOf.f]; refine E.bind (E.const (lastKind_ok _ (by omega))) ?_; exact E.ifn (by simp [Tm.kind]) (E.ifn (by simp [Tm.kind]) (E.now _))
  | any => intro _ h; refine E.up ?_; simp only [impl_lengthOf.f]; refine E.bind (E.const (lastKind_ok _ (by omega))) ?_; exact E.ifn (by decide) (E.ifn (by decide) (E.now _))
  | thn a b iha ihb =>
    intro ho h
    have hl : (Tm.thn a b).ms.length = a.ms.length + b.ms.length + 1 := by simp [Tm.ms]; omega
    have h6 := ho.2.2
    refine E.up ?_
    simp only [impl_lengthOf.f]
    refine E.bind (E.const (lastKind_ok _ (by omega))) ?_
    refine E.ifp rfl ?_
    refine E.bind (halves_thn a b h) ?_
    refine E.bind (iha ho.1 (by omega)) ?_
    refine E.bind (ihb ho.2.1 (by omega)) ?_
    rw [wr (by omega) (by omega)]
    exact E.now _
  | orr a b iha ihb =>
    intro ho h
    have hl : (Tm.orr a b).ms.length = a.ms.length + b.ms.length + 1 := by simp [Tm.ms]; omega
    refine E.up ?_
    simp only [impl_lengthOf.f]
    refine E.bind (E.const (lastKind_ok _ (by omega))) ?_
    refine E.ifn (by simp [Tm.kind]) (E.ifp rfl ?_)
    refine E.bind (halves_orr a b h) ?_
    refine E.bind (iha ho.1 (by omega)) ?_
    exact E.now _


theorem starts_scan (L : List S34) (hL : L.length ≤ 1048576) (R : Int) : ∀ (t : Tm) (p q : List S34) (n : Nat), n + t.ms.length ≤ 1048576 → L = p ++ t.ms ++ q →
    E (fun k => spec_l9Starts.l0 k L (n : Int) ((p.length : Int) - 1)) R → E (fun k => spec_l9Starts.l0 k L ((n + 1 : Nat) : Int) ((p.length : Int) + (t.ms.length : Int) - 1)) R := by
  intro t
  have leaf : ∀ (m : S34) (p q : List S34) (n : Nat), m.f0 = 0 ∨ m.f0 = 1 → n ≤ 1048576 → L = p ++ m :: q → E (fun k => spec_l9Starts.l0 k L (n : Int) ((p.length : Int) - 1)) R → E (fun k => spec_l9Starts.l0 k L ((n + 1 : Nat) : Int) (p.length : Int)) R := by
    intro m p q n hm hn hLe h
    have hlen : p.length < L.length := by rw [hLe]; simp
    refine E.up ?_
    simp only [spec_l9Starts.l0]
    rw [rd_mid' L p m q hLe _ rfl, wr (n := ((n + 1 : Nat) : Int) - 1) (by omega) (by omega), wr (n := (p.length : Int) - 1) (by omega) (by omega), show ((n + 1 : Nat) : Int) - 1 = (n : Int) by omega]
    refine E.ifp (by omega) (E.ifp (by omega) (E.ifp (by omega) ?_))
    rcases hm with hm | hm
    · exact E.ifp hm h
    · exact E.ifn (by omega) (E.ifp hm h)
  have op : ∀ (m : S34) (p q : List S34) (n : Nat), m.f0 = 2 ∨ m.f0 = 3 → n + 2 ≤ 1048578 → L = p ++ m :: q →
      E (fun k => spec_l9Starts.l0 k L ((n + 2 : Nat) : Int) ((p.length : Int) - 1)) R → E (fun k => spec_l9Starts.l0 k L ((n + 1 : Nat) : Int) (p.length : Int)) R := by
    intro m p q n hm hn hLe h
    have hlen : p.length < L.length := by rw [hLe]; simp
    refine E.up ?_
    simp only [spec_l9Starts.l0]
    rw [rd_mid' L p m q hLe _ rfl, wr (n := ((n + 1 : Nat) : Int) + 1) (by omega) (by omega), wr (n := (p.length : Int) - 1) (by omega) (by omega), show ((n + 1 : Nat) : Int) + 1 = ((n + 2 : Nat) : Int) by omega]
    exact E.ifp (by omega) (E.ifp (by omega) (E.ifp (by omega) (E.ifn (by omega) (E.ifn (by omega) h))))
  induction t with
  | col c =>
    intro p q n hn hLe h
    have := leaf ⟨0, c⟩ p q n (.inl rfl) (by omega) (by rw [hLe]; simp [Tm.ms]) h
    simpa [Tm.ms] using this
  | any =>
    intro p q n hn hLe h
    have := leaf ⟨1, 0⟩ p q n (.inr rfl) (by omega) (by rw [hLe]; simp [Tm.ms]) h
    simpa [Tm.ms] using this
  | thn a b iha ihb =>
    intro p q n hn hLe h
    have hl : (Tm.thn a b).ms.length = a.ms.length + b.ms.length + 1 := by simp [Tm.ms]; omega
    have ea := iha p (b.ms ++ ⟨2, 0⟩ :: q) n (by omega) (by rw [hLe]; simp [Tm.ms]) h
    have eb := ihb (p ++ a.ms) (⟨2, 0⟩ :: q) (n + 1) (by omega) (by rw [hLe]; simp [Tm.ms]) (by
      rw [show (((p ++ a.ms).length : Nat) : Int) - 1 = (p.length : Int) + (a.ms.length : Int) - 1 by simp]
      exact ea)
    have key := op ⟨2, 0⟩ (p ++ a.ms ++ b.ms) q n (.inl rfl) (by omega) (by rw [hLe]; simp [Tm.ms]) (by
      rw [show (((p ++ a.ms ++ b.ms).length : Nat) : Int) - 1 = ((p ++ a.ms).length : Int) + (b.ms.length : Int) - 1 by simp; omega]
      exact eb)
    rw [show (p.length : Int) + ((Tm.thn a b).ms.length : Int) - 1 = ((p ++ a.ms ++ b.ms).length : Int) by simp [Tm.ms]; omega]
    exact key
  | orr a b iha ihb =>
    intro p q n hn hLe h
    have hl : (Tm.orr a b).ms.length = a.ms.length + b.ms.length + 1 := by simp [Tm.ms]; omega
    have ea := iha p (b.ms ++ ⟨3, 0⟩ :: q) n (by omega) (by rw [hLe]; simp [Tm.ms]) h
    have eb := ihb (p ++ a.ms) (⟨3, 0⟩ :: q) (n + 1) (by omega) (by rw [hLe]; simp [Tm.ms]) (by
      rw [show (((p ++ a.ms).length : Nat) : Int) - 1 = (p.length : Int) + (a.ms.length : Int) - 1 by simp]
      exact ea)
    have key := op ⟨3, 0⟩ (p ++ a.ms ++ b.ms) q n (.inr rfl) (by omega) (by rw [hLe]; simp [Tm.ms]) (by
      rw [show (((p ++ a.ms ++ b.ms).length : Nat) : Int) - 1 = ((p ++ a.ms).length : Int) + (b.ms.length : Int) - 1 by simp; omega]
      exact eb)
    rw [show (p.length : Int) + ((Tm.orr a b).ms.length : Int) - 1 = ((p ++ a.ms ++ b.ms).length : Int) by simp [Tm.ms]; omega]
    exact key

/-- where the second part of a term begins -/
theorem starts_thn (a b : Tm) (h : (Tm.thn a b).ms.length ≤ 1000) : E (fun k => spec_l9Starts.f k (Tm.thn a b).ms (((Tm.thn a b).ms.length : Int) - 1 - 1)) (a.ms.length : Int) := by
  have hl : (Tm.thn a b).ms.length = a.ms.length + b.ms.length + 1 := by simp [Tm.ms]; omega
  unfold spec_l9Starts.f
  have := starts_scan (Tm.thn a b).ms (by omega) (a.ms.length : Int) b a.ms [⟨2, 0⟩] 0 (by omega) rfl (by
    refine E.up ?_
    simp only [spec_l9Starts.l0]
    refine E.ifn (by omega) ?_
    rw [wr (by omega) (by omega), show (a.ms.length : Int) - 1 + 1 = a.ms.length by omega]
    exact E.now _)
  rw [show (a.ms.length : Int) + (b.ms.length : Int) - 1 = ((Tm.thn a b).ms.length : Int) - 1 - 1 by omega] at this
  exact this

theorem parts_thn (a b : Tm) : (Tm.thn a b).ms.take ((a.ms.length : Int)).toNat = a.ms ∧ ((Tm.thn a b).ms.take ((((Tm.thn a b).ms.length : Int) - 1)).toNat).drop ((a.ms.length : Int)).toNat = b.ms := by
  have hl : (Tm.thn a b).ms.length = a.ms.length + b.ms.length + 1 := by simp [Tm.ms]; omega
  have e : (Tm.thn a b).ms = a.ms ++ b.ms ++ [⟨2, 0⟩] := rfl
  constructor
  · rw [Int.toNat_natCast, e, List.append_assoc, List.take_left]
  · rw [show (((Tm.thn a b).ms.length : Int) - 1).toNat = (a.ms ++ b.ms).length by simp; omega, Int.toNat_natCast, e, List.take_left, List.drop_left]

/-- where the second part of a term begins -/
theorem starts_orr (a b : Tm) (h : (Tm.orr a b).ms.length ≤ 1000) : E (fun k => spec_l9Starts.f k (Tm.orr a b).ms (((Tm.orr a b).ms.length : Int) - 1 - 1)) (a.ms.length : Int) := by
  have hl : (Tm.orr a b).ms.length = a.ms.length + b.ms.length + 1 := by simp [Tm.ms]; omega
  unfold spec_l9Starts.f
  have := starts_scan (Tm.orr a b).ms (by omega) (a.ms.length : Int) b a.ms [⟨3, 0⟩] 0 (by omega) rfl (by
    refine E.up ?_
    simp only [spec_l9Starts.l0]
    refine E.ifn (by omega) ?_
    rw [wr (by omega) (by omega), show (a.ms.length : Int) - 1 + 1 = a.ms.length by omega]
    exact E.now _)
  rw [show (a.ms.length : Int) + (b.ms.length : Int) - 1 = ((Tm.orr a b).ms.length : Int) - 1 - 1 by omega] at this
  exact this

theorem parts_orr (a b : Tm) : (Tm.orr a b).ms.take ((a.ms.length : Int)).toNat = a.ms ∧ ((Tm.orr a b).ms.take ((((Tm.orr a b).ms.length : Int) - 1)).toNat).drop ((a.ms.length : Int)).toNat = b.ms := by
  have hl : (Tm.orr a b).ms.length = a.ms.length + b.ms.length + 1 := by simp [Tm.ms]; omega
  have e : (Tm.orr a b).ms = a.ms ++ b.ms ++ [⟨3, 0⟩] := rfl
  constructor
  · rw [Int.toNat_natCast, e, List.append_assoc, List.take_left]
  · rw [show (((Tm.orr a b).ms.length : Int) - 1).toNat = (a.ms ++ b.ms).length by simp; omega, Int.toNat_natCast, e, List.take_left, List.drop_left]

theorem spec_l9Length_ok {c : Int} (t : Tm) : t.ok c → t.ms.length ≤ 1000 → E (fun k => spec_l9Length.f k t.ms) (t.len : Int) := by
  induction t with
  | col k =>
    intro _ h
    have hp := (Tm.col k).ms_pos
    refine E.up ?_; simp only [spec_l9Length.f]
    rw [wr (n := ((Tm.col k).ms.length : Int) - 1) (by omega) (by omega), (Tm.col k).last_kind]
    refine E.ifp (by omega) (E.ifp (by omega) (E.ifp rfl ?_))
    refine E.up ?_; simp only [spec_l9Length.j0, if_true]; exact E.now _
  | any =>
    intro _ h
    have hp := Tm.any.ms_pos
    refine E.up ?_; simp only [spec_l9Length.f]
    rw [wr (n := (Tm.any.ms.length : Int) - 1) (by omega) (by omega), Tm.any.last_kind]
    refine E.ifp (by omega) (E.ifp (by omega) (E.ifn (by decide) ?_))
    refine E.up ?_; simp only [spec_l9Length.j0, Tm.kind, beq_self_eq_true, if_true]; exact E.now _
  | thn a b iha ihb =>
    intro ho h
    have hl : (Tm.thn a b).ms.length = a.ms.length + b.ms.length + 1 := by simp [Tm.ms]; omega
    have h6 := ho.2.2
    have hb := b.ms_pos
    obtain ⟨p1, p2⟩ := parts_thn a b
    refine E.up ?_; simp only [spec_l9Length.f]
    rw [wr (n := ((Tm.thn a b).ms.length : Int) - 1) (by omega) (by omega), (Tm.thn a b).last_kind]
    refine E.ifp (by omega) (E.ifp (by omega) (E.ifn (by simp [Tm.kind]) ?_))
    refine E.up ?_; simp only [spec_l9Length.j0]
    refine E.ifn (by simp [Tm.kind]) ?_
    rw [wr (n := ((Tm.thn a b).ms.length : Int) - 1 - 1) (by omega) (by omega), (Tm.thn a b).last_kind]
    refine E.bind (starts_thn a b h) ?_
    rw [p1, p2]
    refine E.ifp (by omega) (E.ifp (by omega) (E.ifp rfl (E.ifp (by omega) (E.ifp (by omega) ?_))))
    refine E.bind (iha ho.1 (by omega)) ?_
    refine E.ifp (by omega) (E.ifp (by omega) ?_)
    refine E.bind (ihb ho.2.1 (by omega)) ?_
    rw [wr (by omega) (by omega)]
    exact E.now _
  | orr a b iha ihb =>
    intro ho h
    have hl : (Tm.orr a b).ms.length = a.ms.length + b.ms.length + 1 := by simp [Tm.ms]; omega
    have hb := b.ms_pos
    obtain ⟨p1, p2⟩ := parts_orr a b
    refine E.up ?_; simp only [spec_l9Length.f]
    rw [wr (n := ((Tm.orr a b).ms.length : Int) - 1) (by omega) (by omega), (Tm.orr a b).last_kind]
    refine E.ifp (by omega) (E.ifp (by omega) (E.ifn (by simp [Tm.kind]) ?_))
    refine E.up ?_; simp only [spec_l9Length.j0]
    refine E.ifn (by simp [Tm.kind]) ?_
    rw [wr (n := ((Tm.orr a b).ms.length : Int) - 1 - 1) (by omega) (by omega), (Tm.orr a b).last_kind]
    refine E.bind (starts_orr a b h) ?_
    rw [p1]
    refine E.ifp (by omega) (E.ifp (by omega) (E.ifn (by simp [Tm.kind]) (E.ifp (by omega) (E.ifp (by omega) ?_))))
    refine E.bind (iha ho.1 (by omega)) ?_
    exact E.now _

theorem term_cases (c : Int) (l : List S34) : termB c l = false ∨ (termB c l = true ∧ 1 ≤ c ∧ c ≤ 3 ∧ ∃ t : Tm, t.ok c ∧ l = t.ms ∧ t.ms.length ≤ 15) := by
  cases h : termB c l with
  | false => exact .inl rfl
  | true =>
    obtain ⟨h1, h2, h3, t, ho, e⟩ := termB_some h
    exact .inr ⟨rfl, h1, h2, t, ho, e, e ▸ h3⟩
theorem implTermE (c : Int) (l : List S34) (hl : l.length ≤ 1048576) : E (fun k => impl_TermOk.f k c l) (termB c l) := E.from_ (3 * l.length + 10) (fun k hk => impl_TermOk_ok c l k hl hk)

theorem specTermE (c : Int) (l : List S34) (hl : l.length ≤ 1048576) : E (fun k => spec_TermOk.f k c l) (termB c l) := E.from_ (3 * l.length + 10) (fun k hk => spec_TermOk_ok c l k hl hk)

theorem toMarkE (l : List S55) (hl : l.length ≤ 17592186044416) : E (fun k => laws_toMarkS.f k l) (l.map cv) := E.from_ (l.length + 2) (fun k hk => toMarkS_ok l k hl hk)
theorem eqMarkE (l : List S34) (hl : l.length ≤ 17592186044416) : E (fun k => laws_eqMarkS.f k l l) true := E.from_ (l.length + 2) (fun k hk => eqMarkS_ok l k hl hk)

def inC (c x : Int) : Bool := decide (0 ≤ x ∧ x < c)

/-- a word of so many colours -/
def wordB (c : Int) (l : List Int) : Bool := l.all (inC c) && decide (1 ≤ c ∧ c ≤ 3 ∧ l.length ≤ 6)

theorem wordB_some {c : Int} {l : List Int} (h : wordB c l = true) : (∀ x ∈ l, 0 ≤ x ∧ x < c) ∧ 1 ≤ c ∧ c ≤ 3 ∧ l.length ≤ 6 := by
  unfold wordB at h
  simp only [Bool.and_eq_true, List.all_eq_true, decide_eq_true_eq] at h
  exact ⟨fun x hx => by have := h.1 x hx; unfold inC at this; simpa using this, h.2⟩

theorem wordB_mk {c : Int} {l : List Int} (h : ∀ x ∈ l, 0 ≤ x ∧ x < c) (h2 : 1 ≤ c ∧ c ≤ 3 ∧ l.length ≤ 6) : wordB c l = true := by
  unfold wordB
  simp only [Bool.and_eq_true, List.all_eq_true, decide_eq_true_eq]
  exact ⟨fun x hx => by unfold inC; exact decide_eq_true (h x hx), h2⟩

theorem impl_WordOk_l0 (c : Int) (l : List Int) (hl : l.length ≤ 17592186044416) : ∀ (d i f : Nat), i + d = l.length → d < f →
    impl_WordOk.l0 f c l l (l.length : Int) (i : Int) = some ((l.drop i).all (inC c) && decide (1 ≤ c ∧ c ≤ 3 ∧ l.length ≤ 6)) := by
  intro d
  induction d with
  | zero =>
    intro i f hi hf
    obtain ⟨f, rfl⟩ : ∃ g, f = g + 1 := ⟨f - 1, by omega⟩
    simp only [impl_WordOk.l0]; rw [if_neg (by omega), List.drop_of_length_le (by omega), List.all_nil, Bool.true_and]
    unfold impl_coloursOk.f
    by_cases h : c ≥ 1
    · rw [if_pos h]; simp only [Option.bind_some]
      by_cases h2 : c ≤ 3
      · rw [if_pos (decide_eq_true h2)]; congr 1; apply decide_eq_decide.2; omega
      · rw [decide_eq_false h2, if_neg (by decide), decide_eq_false (by omega)]
    · rw [if_neg h]; simp only [Option.bind_some]; rw [if_neg (by decide), decide_eq_false (by omega)]
  | succ d ih =>
    intro i f hi hf
    obtain ⟨f, rfl⟩ : ∃ g, f = g + 1 := ⟨f - 1, by omega⟩
    simp only [impl_WordOk.l0]
    rw [if_pos (by omega), if_pos (by omega), if_pos (by omega), rd_nat l i (by omega), wr (by omega) (by omega), List.drop_eq_getElem_cons (show i < l.length by omega), List.all_cons]
    by_cases h1 : l[i] < 0
    · rw [if_pos h1, show inC c l[i] = false from decide_eq_false (by omega)]; rfl
    by_cases h2 : l[i] ≥ c
    · rw [if_neg h1, if_pos h2, show inC c l[i] = false from decide_eq_false (by omega)]; rfl
    · rw [if_neg h1, if_neg h2]
      have := ih (i + 1) f (by omega) (by omega)
      rw [show ((i : Int) + 1) = ((i + 1 : Nat) : Int) by omega, this, show inC c l[i] = true from decide_eq_true (by omega), Bool.true_and]

theorem impl_WordOk_ok (c : Int) (l : List Int) (f : Nat) (hl : l.length ≤ 17592186044416) (hf : l.length + 2 ≤ f) : impl_WordOk.f f c l = some (wordB c l) := by
  unfold impl_WordOk.f wordB
  have := impl_WordOk_l0 c l hl l.length 0 f (by omega) (by omega)
  rw [List.drop_zero] at this
  exact this

theorem spec_WordOk_l0 (c : Int) (l : List Int) (hl : l.length ≤ 17592186044416) : ∀ (d i f : Nat), i + d = l.length → d < f →
    spec_WordOk.l0 f c l (i : Int) = some ((l.drop i).all (inC c) && decide (1 ≤ c ∧ c ≤ 3 ∧ l.length ≤ 6)) := by
  intro d
  induction d with
  | zero =>
    intro i f hi hf
    obtain ⟨f, rfl⟩ : ∃ g, f = g + 1 := ⟨f - 1, by omega⟩
    simp only [spec_WordOk.l0]; rw [if_neg (by omega), List.drop_of_length_le (by omega), List.all_nil, Bool.true_and, l1In_ok]
    simp only [Option.bind_some]
    by_cases h : 1 ≤ c ∧ c ≤ 3
    · rw [if_pos (decide_eq_true h)]; congr 1; apply decide_eq_decide.2; omega
    · rw [decide_eq_false h, if_neg (by decide), decide_eq_false (by omega)]
  | succ d ih =>
    intro i f hi hf
    obtain ⟨f, rfl⟩ : ∃ g, f = g + 1 := ⟨f - 1, by omega⟩
    simp only [spec_WordOk.l0]
    rw [if_pos (by omega), if_pos (by omega), rd_nat l i (by omega), wr (by omega) (by omega), List.drop_eq_getElem_cons (show i < l.length by omega), List.all_cons]
    by_cases h1 : l[i] < 0
    · rw [if_pos h1, show inC c l[i] = false from decide_eq_false (by omega)]; rfl
    by_cases h2 : l[i] ≥ c
    · rw [if_neg h1, if_pos h2, show inC c l[i] = false from decide_eq_false (by omega)]; rfl
    · rw [if_neg h1, if_neg h2]
      have := ih (i + 1) f (by omega) (by omega)
      rw [show ((i : Int) + 1) = ((i + 1 : Nat) : Int) by omega, this, show inC c l[i] = true from decide_eq_true (by omega), Bool.true_and]

theorem spec_WordOk_ok (c : Int) (l : List Int) (f : Nat) (hl : l.length ≤ 17592186044416) (hf : l.length + 2 ≤ f) : spec_WordOk.f f c l = some (wordB c l) := by
  unfold spec_WordOk.f wordB
  have := spec_WordOk_l0 c l hl l.length 0 f (by omega) (by omega)
  rw [List.drop_zero] at this
  exact this

def Tm.fits : Tm → List Int → Bool
  | .col c, w => decide (w = [c])
  | .any, w => decide (w.length = 1)
  | .thn a b, w => decide (a.len ≤ w.length) && (a.fits (w.take a.len) && b.fits (w.drop a.len))
  | .orr a b, w => a.fits w || b.fits w

theorem Tm.fits_len {c : Int} (t : Tm) : t.ok c → ∀ w, t.fits w = true → w.length = t.len := by
  induction t with
  | col k => intro _ w h; simp only [Tm.fits, decide_eq_true_eq] at h; subst h; rfl
  | any => intro _ w h; simp only [Tm.fits, decide_eq_true_eq] at h; exact h
  | thn a b iha ihb =>
    intro ho w h
    simp only [Tm.fits, Bool.and_eq_true, decide_eq_true_eq] at h
    have h1 := ihb ho.2.1 _ h.2.2
    rw [List.length_drop] at h1
    simp only [Tm.len]; omega
  | orr a b iha ihb =>
    intro ho w h
    simp only [Tm.fits, Bool.or_eq_true] at h
    simp only [Tm.len]
    rcases h with h | h
    · exact iha ho.1 _ h
    · rw [ihb ho.2.1 _ h]; exact ho.2.2.symm

theorem one_word {w : List Int} (h : w.length = 1) : ∃ x, w = [x] := by
  match w, h with
  | [x], _ => exact ⟨x, rfl⟩
theorem impl_fits_ok {c : Int} (t : Tm) : t.ok c → t.ms.length ≤ 1000 → ∀ w, E (fun k => impl_fits.f k t.ms w) (t.fits w) := by
  induction t with
  | col n =>
    intro _ h w
    refine E.up ?_; simp only [impl_fits.f]
    refine E.bind (E.const (lastKind_ok _ (by omega))) (E.ifp rfl ?_)
    by_cases hw : w.length = 1
    · obtain ⟨x, rfl⟩ := one_word hw
      refine E.ifp (by simp) (E.ifp (by simp) (E.ifp (by simp [Tm.ms]) ?_))
      have : (rd [x] 0 == (rd_T34 (Tm.col n).ms 0).f1) = (Tm.col n).fits [x] := by
        show (x == n) = decide ([x] = [n])
        simp only [List.cons.injEq, and_true]
        rfl
      rw [this]; exact E.now _
    · refine E.ifn (by omega) ?_
      have : (Tm.col n).fits w = false := by simp only [Tm.fits]; exact decide_eq_false (fun e => hw (by rw [e]; rfl))
      rw [this]; exact E.now _
  | any =>
    intro _ h w
    refine E.up ?_; simp only [impl_fits.f]
    refine E.bind (E.const (lastKind_ok _ (by omega))) (E.ifn (by simp [Tm.kind]) (E.ifp rfl ?_))
    have : ((w.length : Int) == 1) = Tm.any.fits w := by
      simp only [Tm.fits]
      by_cases hw : w.length = 1
      · rw [decide_eq_true hw, hw]; rfl
      · rw [decide_eq_false hw]; exact beq_eq_false_iff_ne.2 (by omega)
    rw [this]; exact E.now _
  | thn a b iha ihb =>
    intro ho h w
    have hl : (Tm.thn a b).ms.length = a.ms.length + b.ms.length + 1 := by simp [Tm.ms]; omega
    refine E.up ?_; simp only [impl_fits.f]
    refine E.bind (E.const (lastKind_ok _ (by omega))) (E.ifn (by simp [Tm.kind]) (E.ifn (by simp [Tm.kind]) (E.bind (halves_thn a b h) (E.bind (E.const (lastKind_ok _ (by omega))) (E.ifn (by simp [Tm.kind]) (E.bind (impl_lengthOf_ok a ho.1 (by omega)) ?_))))))
    by_cases hw : a.len ≤ w.length
    · refine E.ifp (by omega) (E.ifp (by omega) (E.ifp (by omega) ?_))
      simp only [Int.toNat_natCast]
      refine E.bind (iha ho.1 (by omega) _) ?_
      simp only [Tm.fits, decide_eq_true hw, Bool.true_and]
      cases a.fits (w.take a.len) with
      | false => exact E.ifn (by decide) (E.now _)
      | true => exact E.ifp rfl (E.bind (ihb ho.2.1 (by omega) _) (E.now _))
    · refine E.ifn (by omega) ?_
      simp only [Tm.fits, decide_eq_false hw, Bool.false_and]
      exact E.now _
  | orr a b iha ihb =>
    intro ho h w
    have hl : (Tm.orr a b).ms.length = a.ms.length + b.ms.length + 1 := by simp [Tm.ms]; omega
    refine E.up ?_; simp only [impl_fits.f]
    refine E.bind (E.const (lastKind_ok _ (by omega))) (E.ifn (by simp [Tm.kind]) (E.ifn (by simp [Tm.kind]) (E.bind (halves_orr a b h) (E.bind (E.const (lastKind_ok _ (by omega))) (E.ifp rfl (E.bind (iha ho.1 (by omega) w) ?_))))))
    simp only [Tm.fits]
    cases a.fits w with
    | true => exact E.ifp rfl (E.now _)
    | false => exact E.ifn (by decide) (E.bind (ihb ho.2.1 (by omega) w) (E.now _))
theorem implWordE (c : Int) (l : List Int) (hl : l.length ≤ 17592186044416) : E (fun k => impl_WordOk.f k c l) (wordB c l) := E.from_ (l.length + 2) (fun k hk => impl_WordOk_ok c l k hl hk)

theorem impl_FitsOk_no (c : Int) (l : List S34) (w : List Int) (hl : l.length ≤ 1048576) (h : termB c l = false) : E (fun k => impl_FitsOk.f k c l w) false := by
  unfold impl_FitsOk.f; exact E.bind (implTermE c l hl) (E.ifn (by simp [h]) (E.now _))
theorem impl_FitsOk_yes (c : Int) (t : Tm) (w : List Int) (ho : t.ok c) (h : termB c t.ms = true) (h15 : t.ms.length ≤ 15) (hw : w.length ≤ 17592186044416) : E (fun k => impl_FitsOk.f k c t.ms w) (wordB c w && t.fits w) := by
  unfold impl_FitsOk.f
  refine E.bind (implTermE c _ (by omega)) (E.ifp h (E.bind (implWordE c w hw) ?_))
  cases wordB c w with
  | false => exact E.ifn (by decide) (E.now _)
  | true => exact E.ifp rfl (E.bind (impl_fits_ok t ho (by omega) w) (E.now _))

theorem spec_l9Fits_ok {c : Int} (t : Tm) : t.ok c → t.ms.length ≤ 1000 → ∀ w, E (fun k => spec_l9Fits.f k t.ms w) (t.fits w) := by
  induction t with
  | col n =>
    intro _ h w
    have hp := (Tm.col n).ms_pos
    refine E.up ?_; simp only [spec_l9Fits.f]
    rw [wr (n := ((Tm.col n).ms.length : Int) - 1) (by omega) (by omega), (Tm.col n).last_kind]
    refine E.ifp (by omega) (E.ifp (by omega) (E.ifp rfl ?_))
    by_cases hw : w.length = 1
    · obtain ⟨x, rfl⟩ := one_word hw
      refine E.ifp (by simp) (E.ifp (by simp) ?_)
      have : (rd [x] 0 == n) = (Tm.col n).fits [x] := by
        show (x == n) = decide ([x] = [n])
        simp only [List.cons.injEq, and_true]
        rfl
      simp only []
      rw [this]; exact E.now _
    · refine E.ifn (by omega) ?_
      have : (Tm.col n).fits w = false := by simp only [Tm.fits]; exact decide_eq_false (fun e => hw (by rw [e]; rfl))
      rw [this]; exact E.now _
  | any =>
    intro _ h w
    have hp := Tm.any.ms_pos
    refine E.up ?_; simp only [spec_l9Fits.f]
    rw [wr (n := (Tm.any.ms.length : Int) - 1) (by omega) (by omega), Tm.any.last_kind]
    refine E.ifp (by omega) (E.ifp (by omega) (E.ifn (by simp [Tm.kind]) (E.ifp rfl ?_)))
    have : ((w.length : Int) == 1) = Tm.any.fits w := by
      simp only [Tm.fits]
      by_cases hw : w.length = 1
      · rw [decide_eq_true hw, hw]; rfl
      · rw [decide_eq_false hw]; exact beq_eq_false_iff_ne.2 (by omega)
    rw [this]; exact E.now _
  | thn a b iha ihb =>
    intro ho h w
    have hl : (Tm.thn a b).ms.length = a.ms.length + b.ms.length + 1 := by simp [Tm.ms]; omega
    have hb := b.ms_pos
    obtain ⟨p1, p2⟩ := parts_thn a b
    refine E.up ?_; simp only [spec_l9Fits.f]
    rw [wr (n := ((Tm.thn a b).ms.length : Int) - 1) (by omega) (by omega), (Tm.thn a b).last_kind, wr (n := ((Tm.thn a b).ms.length : Int) - 1 - 1) (by omega) (by omega)]
    refine E.ifp (by omega) (E.ifp (by omega) (E.ifn (by simp [Tm.kind]) (E.ifn (by simp [Tm.kind]) (E.bind (starts_thn a b h) (E.ifn (by simp [Tm.kind]) (E.ifp (by omega) (E.ifp (by omega) ?_)))))))
    rw [p1, p2]
    refine E.bind (spec_l9Length_ok a ho.1 (by omega)) ?_
    by_cases hw : a.len ≤ w.length
    · refine E.ifp (by omega) (E.ifp (by omega) (E.ifp (by omega) ?_))
      simp only [Int.toNat_natCast]
      refine E.bind (iha ho.1 (by omega) _) ?_
      simp only [Tm.fits, decide_eq_true hw, Bool.true_and]
      cases a.fits (w.take a.len) with
      | false => exact E.ifn (by decide) (E.now _)
      | true => exact E.ifp rfl (E.ifp (by omega) (E.ifp (by omega) (E.bind (ihb ho.2.1 (by omega) _) (E.now _))))
    · refine E.ifn (by omega) ?_
      simp only [Tm.fits, decide_eq_false hw, Bool.false_and]
      exact E.now _
  | orr a b iha ihb =>
    intro ho h w
    have hl : (Tm.orr a b).ms.length = a.ms.length + b.ms.length + 1 := by simp [Tm.ms]; omega
    have hb := b.ms_pos
    obtain ⟨p1, p2⟩ := parts_orr a b
    refine E.up ?_; simp only [spec_l9Fits.f]
    rw [wr (n := ((Tm.orr a b).ms.length : Int) - 1) (by omega) (by omega), (Tm.orr a b).last_kind, wr (n := ((Tm.orr a b).ms.length : Int) - 1 - 1) (by omega) (by omega)]
    refine E.ifp (by omega) (E.ifp (by omega) (E.ifn (by simp [Tm.kind]) (E.ifn (by simp [Tm.kind]) (E.bind (starts_orr a b h) (E.ifp rfl (E.ifp (by omega) (E.ifp (by omega) ?_)))))))
    rw [p1, p2]
    refine E.bind (iha ho.1 (by omega) w) ?_
    simp only [Tm.fits]
    cases a.fits w with
    | true => exact E.ifp rfl (E.now _)
    | false => exact E.ifn (by decide) (E.ifp (by omega) (E.ifp (by omega) (E.bind (ihb ho.2.1 (by omega) w) (E.now _))))
theorem specWordE (c : Int) (l : List Int) (hl : l.length ≤ 17592186044416) : E (fun k => spec_WordOk.f k c l) (wordB c l) := E.from_ (l.length + 2) (fun k hk => spec_WordOk_ok c l k hl hk)

theorem spec_FitsOk_no (c : Int) (l : List S34) (w : List Int) (hl : l.length ≤ 1048576) (h : termB c l = false) : E (fun k => spec_FitsOk.f k c l w) false := by
  unfold spec_FitsOk.f; exact E.bind (specTermE c l hl) (E.ifn (by simp [h]) (E.now _))
theorem spec_FitsOk_yes (c : Int) (t : Tm) (w : List Int) (ho : t.ok c) (h : termB c t.ms = true) (h15 : t.ms.length ≤ 15) (hw : w.length ≤ 17592186044416) : E (fun k => spec_FitsOk.f k c t.ms w) (wordB c w && t.fits w) := by
  unfold spec_FitsOk.f
  refine E.bind (specTermE c _ (by omega)) (E.ifp h (E.bind (specWordE c w hw) ?_))
  cases wordB c w with
  | false => exact E.ifn (by decide) (E.now _)
  | true => exact E.ifp rfl (E.bind (spec_l9Fits_ok t ho (by omega) w) (E.now _))

theorem fitss (c : Int) (l : List S34) (w : List Int) (hl : l.length ≤ 1048576) (hw : w.length ≤ 17592186044416) : ∃ r, E (fun k => impl_FitsOk.f k c l w) r ∧ E (fun k => spec_FitsOk.f k c l w) r := by
  rcases term_cases c l with h | ⟨h, _, _, t, ho, rfl, h15⟩
  · exact ⟨_, impl_FitsOk_no c l w hl h, spec_FitsOk_no c l w hl h⟩
  · exact ⟨_, impl_FitsOk_yes c t w ho h h15 hw, spec_FitsOk_yes c t w ho h h15 hw⟩

theorem FnExactFitsOk : laws_FnExactFitsOk.Pure := by
  intro c l w _ hm hm2 _ _
  unfold maxLen at hm hm2
  refine E.use (r := true) ?_
  unfold laws_FnExactFitsOk.f
  by_cases hw : (w.length : Int) > 1048576
  · exact E.ifp hw (E.now _)
  refine E.ifn hw (E.bind (E.const (szMarkS_ok l 1048576 (by omega) (by omega))) ?_)
  by_cases hlen : (1048576 : Int) - (l.length : Int) < 0
  · exact E.ifp (by rw [if_pos hlen]; omega) (E.now _)
  have hl : (l.map cv).length ≤ 1048576 := by simp; omega
  obtain ⟨r, e1, e2⟩ := fitss c (l.map cv) w hl (by omega)
  have e3 := toMarkE l (by omega)
  have e4 : E (fun k => laws_toIntS.f k w) w := E.from_ (w.length + 2) (fun k hk => toIntS_ok w k (by omega) hk)
  have e5 : E (fun k => laws_eqIntS.f k w w) true := E.from_ (w.length + 2) (fun k hk => by rw [eqIntS_ok w w k (by omega) hk, decide_eq_true rfl])
  exact E.ifn (by rw [if_neg hlen]; omega) (E.bind e3 (E.bind e4 (E.bind e2 (E.bind e3 (E.bind e4 (E.bind e1 (E.ifn (by simp) (E.bind e3 (E.bind (eqMarkE _ (by omega)) (E.ifp rfl (E.bind e4 (E.bind e5 (E.ifp rfl (E.now _))))))))))))))

end Go.Proofs.Ytpnloocdeljmhaa.Pure
