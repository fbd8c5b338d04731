/- FnRunWords: for all arguments that the statement lets in, the law answers true. No condition of ours. -/
import Derived.Test.YtojaioejdfibhaaOFnRunWordsx4
namespace Go.Proofs.Ytojaioejdfibhaa.Pure
open Go.RowKit Go.Proofs.Ytojaioejdfibhaa.PFnRunWords Go.Proofs.YtojaioejdfibhaaW.PrintWords Go.Proofs.YtojaioejdfibhaaW.PrintLast

theorem wr {n : Int} (h0 : -9223372036854775808 ≤ n) (h1 : n < 9223372036854775808) : wrap64 n = n := by unfold wrap64; omega
theorem wrap_lo (x : Int) : -9223372036854775808 ≤ wrap64 x := by unfold wrap64; omega
theorem wrap_hi (x : Int) : wrap64 x < 9223372036854775808 := by unfold wrap64; omega


theorem rd_byte {b : List Int} (hb : ∀ x ∈ b, 0 ≤ x ∧ x < 256) (i : Int) : 0 ≤ rd b i ∧ rd b i < 256 := by
  unfold rd
  rw [List.getD_eq_getElem?_getD]
  cases h : b[i.toNat]? with
  | none => simp
  | some x => exact hb x (List.mem_of_getElem? h)

theorem xor_nonneg {a c : Int} (ha : 0 ≤ a) (ha' : a < 4611686018427387904) (hc : 0 ≤ c) (hc' : c < 4611686018427387904) : 0 ≤ Go.bits .xor .i64 a c := by
  obtain ⟨a, rfl⟩ := Int.eq_ofNat_of_zero_le ha
  obtain ⟨c, rfl⟩ := Int.eq_ofNat_of_zero_le hc
  have ha2 : a < 2 ^ 62 := by omega
  have hc2 : c < 2 ^ 62 := by omega
  have hx := Nat.xor_lt_two_pow ha2 hc2
  have h1 : a % 2 ^ 64 = a := Nat.mod_eq_of_lt (by omega)
  have h2 : c % 2 ^ 64 = c := Nat.mod_eq_of_lt (by omega)
  have e : Go.bits .xor .i64 (a : Int) (c : Int) = wrap64 ((a ^^^ c : Nat) : Int) := by
    simp only [Go.bits, BitVec.ofInt_natCast, BitVec.toNat_xor, BitVec.toNat_ofNat]
    rw [show Go.IntKind.i64.bits = 64 from rfl, h1, h2, Go.IntKind.wrap_i64]
    unfold wrap64
    with_reducible rfl
  rw [e, wr (by omega) (by omega)]
  omega

theorem tmod_lt {x n : Int} (hx : 0 ≤ x) (hn : 1 ≤ n) : 0 ≤ Int.tmod x n ∧ Int.tmod x n < n :=
  ⟨Int.tmod_nonneg n hx, Int.tmod_lt_of_pos x (by omega)⟩

theorem tdiv_le (x n : Int) (hx : 0 ≤ x) : Int.tdiv x n ≤ x := by
  by_cases hn : n = 0
  · subst hn; simp; omega
  by_cases h : 0 ≤ n
  · rw [Int.tdiv_eq_ediv_of_nonneg hx]; exact Int.ediv_le_self n hx
  · have : Int.tdiv x n ≤ 0 := Int.tdiv_nonpos_of_nonneg_of_nonpos hx (by omega)
    omega

theorem pick_ok {b : List Int} (hb : ∀ x ∈ b, 0 ≤ x ∧ x < 256) (hl : b.length ≤ 2000) {p : Int} (n : Int) (hp0 : 0 ≤ p) (hp1 : p < 1000000000) :
    ∃ v, (∀ k, 1 ≤ k → spec_l20Rd_pick.f k b p n = some (v, p + 1)) ∧ 0 ≤ v ∧ (v = 0 ∨ v < n) := by
  have e0 : wrap64 (p + 1) = p + 1 := wr (by omega) (by omega)
  have e1 : wrap64 (p + 1 - 1) = p := by rw [wr (by omega) (by omega)]; omega
  by_cases hn : n < 1
  · refine ⟨0, fun k hk => ?_, Int.le_refl _, .inl rfl⟩
    obtain ⟨k, rfl⟩ : ∃ m, k = m + 1 := ⟨k - 1, by omega⟩
    unfold spec_l20Rd_pick.f; rw [if_pos hn, e0]; simp only [spec_l20Rd_pick.j0, if_true]
  by_cases hz : (b.length : Int) = 0
  · refine ⟨0, fun k hk => ?_, Int.le_refl _, .inl rfl⟩
    obtain ⟨k, rfl⟩ : ∃ m, k = m + 1 := ⟨k - 1, by omega⟩
    unfold spec_l20Rd_pick.f; rw [if_neg hn, e0, hz]; simp only [spec_l20Rd_pick.j0, beq_self_eq_true, if_true]
  have hz' : ((b.length : Int) == 0) = false := by simpa using hz
  by_cases hp : p < (b.length : Int)
  · have hr := rd_byte hb p
    have ew : wrap64 (rd b p) = rd b p := wr (by omega) (by omega)
    have hm := tmod_lt (n := n) hr.1 (by omega)
    refine ⟨Int.tmod (rd b p) n, fun k hk => ?_, hm.1, .inr hm.2⟩
    obtain ⟨k, rfl⟩ : ∃ m, k = m + 1 := ⟨k - 1, by omega⟩
    unfold spec_l20Rd_pick.f; rw [if_neg hn, e0, hz']; simp only [spec_l20Rd_pick.j0]; rw [e1, if_neg (by decide), if_pos hp, if_pos hp0, if_neg (by omega), ew]
  · have hL : (1 : Int) ≤ b.length := by omega
    have m1 := tmod_lt (n := (b.length : Int)) hp0 hL
    have e7 : wrap64 (p * 7) = p * 7 := wr (by omega) (by omega)
    have e73 : wrap64 (p * 7 + 3) = p * 7 + 3 := wr (by omega) (by omega)
    have m2 := tmod_lt (x := p * 7 + 3) (n := (b.length : Int)) (by omega) hL
    have r1 := rd_byte hb (Int.tmod p (b.length : Int))
    have r2 := rd_byte hb (Int.tmod (p * 7 + 3) (b.length : Int))
    have d0 : 0 ≤ Int.tdiv p (b.length : Int) := Int.tdiv_nonneg hp0 (by omega)
    have d1 : Int.tdiv p (b.length : Int) ≤ p := tdiv_le p _ hp0
    have ex : ∃ v, (∀ k, spec_l20Rd_pick.j0 (k + 1) n false b (p + 1) = some (v, p + 1)) ∧ 0 ≤ v ∧ (v = 0 ∨ v < n) := by
      simp only [spec_l20Rd_pick.j0]
      rw [e1, if_neg (by decide), if_neg hp, if_neg hz, if_pos m1.1, if_pos m1.2, e7, e73, if_pos m2.1, if_pos m2.2, if_neg (show ¬ n = 0 by omega)]
      generalize rd b (Int.tmod p (b.length : Int)) = x1 at r1
      generalize rd b (Int.tmod (p * 7 + 3) (b.length : Int)) = x2 at r2
      generalize Int.tdiv p (b.length : Int) = q at d0 d1
      rw [wr (n := x1) (by omega) (by omega), wr (n := x2) (by omega) (by omega), wr (n := x1 * 131) (by omega) (by omega), wr (n := x2 * 1117) (by omega) (by omega),
        wr (n := x1 * 131 + x2 * 1117) (by omega) (by omega), wr (n := p * 29) (by omega) (by omega), wr (n := x1 * 131 + x2 * 1117 + p * 29) (by omega) (by omega),
        wr (n := q) (by omega) (by omega), wr (n := q * 53) (by omega) (by omega), wr (n := x1 * 131 + x2 * 1117 + p * 29 + q * 53) (by omega) (by omega)]
      have hX : 0 ≤ x1 * 131 + x2 * 1117 + p * 29 + q * 53 := by omega
      have hX' : x1 * 131 + x2 * 1117 + p * 29 + q * 53 < 4611686018427387904 := by omega
      generalize x1 * 131 + x2 * 1117 + p * 29 + q * 53 = X at hX hX'
      have q0 : 0 ≤ Int.tdiv X 64 := Int.tdiv_nonneg hX (by omega)
      have q1 : Int.tdiv X 64 ≤ X := tdiv_le X 64 hX
      rw [wr (n := Int.tdiv X 64) (by omega) (by omega)]
      have hm := tmod_lt (n := n) (xor_nonneg hX hX' q0 (by omega)) (by omega)
      exact ⟨_, fun _ => rfl, hm.1, .inr hm.2⟩
    obtain ⟨v, hv, h0, h1⟩ := ex
    refine ⟨v, fun k hk => ?_, h0, h1⟩
    obtain ⟨k, rfl⟩ : ∃ m, k = m + 1 := ⟨k - 1, by omega⟩
    unfold spec_l20Rd_pick.f; rw [if_neg hn, e0, hz', hv]

theorem open_ok {l : List Int} (hl : ∀ x ∈ l, (Lit.int .u8 x).wf = true) :
    ∃ b, spec_l20Open.f l = some (b, 0) ∧ (∀ x ∈ b, 0 ≤ x ∧ x < 256) ∧ b.length ≤ 2000 := by
  have hl' : ∀ x ∈ l, 0 ≤ x ∧ x < 256 := fun x hx => by
    have := hl x hx
    simp [Lit.wf, Go.IntKind.min, Go.IntKind.max, Go.IntKind.bits, Go.IntKind.signed] at this
    omega
  unfold spec_l20Open.f
  by_cases h : (l.length : Int) > 2000
  · rw [if_pos h, if_pos (by omega)]
    exact ⟨_, rfl, fun x hx => hl' x (List.mem_of_mem_take hx), by simp; omega⟩
  · rw [if_neg h]
    exact ⟨_, rfl, hl', by omega⟩

/-- one number drawn: what it is, and where the reader stands behind it -/
theorem pick_one {b : List Int} (hb : ∀ x ∈ b, 0 ≤ x ∧ x < 256) (hl : b.length ≤ 2000) {p : Int} (n : Int) (hp0 : 0 ≤ p) (hp1 : p < 1000000000) :
    ∃ v q, (∀ k, 1 ≤ k → spec_l20Rd_pick.f k b p n = some (v, q)) ∧ 0 ≤ v ∧ (v = 0 ∨ v < n) ∧ 0 ≤ q ∧ q ≤ p + 1 := by
  obtain ⟨v, h, h0, h1⟩ := pick_ok hb hl n hp0 hp1
  exact ⟨v, p + 1, h, h0, h1, by omega, by omega⟩

theorem draw_rw (k : Nat) (hk : 1 ≤ k) {l : List Int} (hl : ∀ x ∈ l, (Lit.int .u8 x).wf = true) : ∃ a b c : Int, spec_DrawRunWords.f k l = some (a, b, c) ∧ 0 ≤ a ∧ a ≤ 4 ∧ 0 ≤ b ∧ b ≤ 12 ∧ -8 ≤ c ∧ c ≤ 7 := by
  obtain ⟨b, e0, b1, b2⟩ := open_ok hl
  obtain ⟨v1, q1, p1, l1, u1, m1, n1⟩ := pick_one b1 b2 (p := 0) 5 (by omega) (by omega)
  obtain ⟨v2, q2, p2, l2, u2, m2, n2⟩ := pick_one b1 b2 (p := q1) (wrap64 (7 - v1)) (by omega) (by omega)
  rw [wr (n := 7 - v1) (by omega) (by omega)] at u2
  obtain ⟨v3, q3, p3, l3, u3, m3, n3⟩ := pick_one b1 b2 (p := q2) 40 (by omega) (by omega)
  obtain ⟨v4, q4, p4, l4, u4, m4, n4⟩ := pick_one b1 b2 (p := q3) 7 (by omega) (by omega)
  obtain ⟨v5, q5, p5, l5, u5, m5, n5⟩ := pick_one b1 b2 (p := q4) 40 (by omega) (by omega)
  obtain ⟨v6, q6, p6, l6, u6, m6, n6⟩ := pick_one b1 b2 (p := q5) 40 (by omega) (by omega)
  unfold spec_DrawRunWords.f
  rw [e0]; simp only [Option.bind_some]
  rw [p1 k hk]; simp only [Option.bind_some]
  rw [p2 k hk]; simp only [Option.bind_some]
  rw [p3 k hk]; simp only [Option.bind_some]
  rw [p4 k hk]; simp only [Option.bind_some]
  rw [p5 k hk]; simp only [Option.bind_some]
  rw [p6 k hk]; simp only [Option.bind_some]
  have d : ∀ x : Int, 0 ≤ x → (x = 0 ∨ x < 40) → 0 ≤ Int.tdiv x 39 ∧ Int.tdiv x 39 ≤ 1 := fun x h0 h1 => by
    rw [Int.tdiv_eq_ediv_of_nonneg h0]; omega
  have d3 := d v3 l3 u3
  have d5 := d v5 l5 u5
  have d6 := d v6 l6 u6
  generalize Int.tdiv v3 39 = t3 at *
  generalize Int.tdiv v5 39 = t5 at *
  generalize Int.tdiv v6 39 = t6 at *
  refine ⟨_, _, _, rfl, l1, by omega, ?_⟩
  rw [wr (n := t3) (by omega) (by omega), wr (n := t3 * 6) (by omega) (by omega), wr (n := v2 + t3 * 6) (by omega) (by omega), wr (n := t5) (by omega) (by omega), wr (n := v4 + t5) (by omega) (by omega), wr (n := t6) (by omega) (by omega),
    wr (n := t6 * 8) (by omega) (by omega), wr (n := v4 + t5 - t6 * 8) (by omega) (by omega)]
  omega

def restW (k : Nat) (bt174 : Int × Int × Int) : Option Bool := ((impl_RunWords.f k bt174.1 bt174.2.1 bt174.2.2).bind fun t177 => ((spec_RunWords.f k bt174.1 bt174.2.1 bt174.2.2).bind fun t178 => (if t177 = t178 then (if t177 < 0 then (if t177 = (-1) then ((laws_alive.f k).bind fun t179 => (some t179)) else (some false)) else (laws_FnRunWords.l0 k bt174.1 bt174.2.1 bt174.2.2 t177 (wrap64 (bt174.1 + bt174.2.1)) 0 0)) else (some false))))
def outs : List Int := [-8, -7, -6, -5, -4, -3, -2, -1, 0, 1, 2, 3, 4, 5, 6, 7]
theorem mem_outs {c : Int} (h : -8 ≤ c) (h2 : c ≤ 7) : c ∈ outs := by
  simp only [outs, List.mem_cons]; omega
set_option maxHeartbeats 400000000 in
theorem rest_0_0 : ∀ b ∈ ([0, 1, 2, 3, 4] : List Int), ∀ c ∈ outs, restW 100 (0, (b : Int), c) = some true := by decide +kernel
set_option maxHeartbeats 400000000 in
theorem rest_0_1 : ∀ b ∈ ([5] : List Int), ∀ c ∈ outs, restW 100 (0, (b : Int), c) = some true := by decide +kernel
set_option maxHeartbeats 400000000 in
theorem rest_0_2 : ∀ b ∈ ([6] : List Int), ∀ c ∈ outs, restW 100 (0, (b : Int), c) = some true := by decide +kernel
set_option maxHeartbeats 400000000 in
theorem rest_0_3 : ∀ b ∈ ([7, 8, 9, 10, 11, 12] : List Int), ∀ c ∈ outs, restW 100 (0, (b : Int), c) = some true := by decide +kernel
set_option maxHeartbeats 400000000 in
theorem rest_1_0 : ∀ b ∈ ([0, 1, 2, 3, 4] : List Int), ∀ c ∈ outs, restW 100 (1, (b : Int), c) = some true := by decide +kernel
set_option maxHeartbeats 400000000 in
theorem rest_1_1 : ∀ b ∈ ([5] : List Int), ∀ c ∈ outs, restW 100 (1, (b : Int), c) = some true := by decide +kernel
set_option maxHeartbeats 400000000 in
theorem rest_1_2 : ∀ b ∈ ([6] : List Int), ∀ c ∈ outs, restW 100 (1, (b : Int), c) = some true := by decide +kernel
set_option maxHeartbeats 400000000 in
theorem rest_1_3 : ∀ b ∈ ([7, 8, 9, 10, 11, 12] : List Int), ∀ c ∈ outs, restW 100 (1, (b : Int), c) = some true := by decide +kernel
set_option maxHeartbeats 400000000 in
theorem rest_2_0 : ∀ b ∈ ([0, 1, 2, 3, 4] : List Int), ∀ c ∈ outs, restW 100 (2, (b : Int), c) = some true := by decide +kernel
set_option maxHeartbeats 400000000 in
theorem rest_2_1 : ∀ b ∈ ([5] : List Int), ∀ c ∈ outs, restW 100 (2, (b : Int), c) = some true := by decide +kernel
set_option maxHeartbeats 400000000 in
theorem rest_2_2 : ∀ b ∈ ([6] : List Int), ∀ c ∈ outs, restW 100 (2, (b : Int), c) = some true := by decide +kernel
set_option maxHeartbeats 400000000 in
theorem rest_2_3 : ∀ b ∈ ([7, 8, 9, 10, 11, 12] : List Int), ∀ c ∈ outs, restW 100 (2, (b : Int), c) = some true := by decide +kernel
set_option maxHeartbeats 400000000 in
theorem rest_3_0 : ∀ b ∈ ([0, 1, 2, 3, 4] : List Int), ∀ c ∈ outs, restW 100 (3, (b : Int), c) = some true := by decide +kernel
set_option maxHeartbeats 400000000 in
theorem rest_3_1 : ∀ b ∈ ([5] : List Int), ∀ c ∈ outs, restW 100 (3, (b : Int), c) = some true := by decide +kernel
set_option maxHeartbeats 400000000 in
theorem rest_3_2 : ∀ b ∈ ([6] : List Int), ∀ c ∈ outs, restW 100 (3, (b : Int), c) = some true := by decide +kernel
set_option maxHeartbeats 400000000 in
theorem rest_3_3 : ∀ b ∈ ([7, 8, 9, 10, 11, 12] : List Int), ∀ c ∈ outs, restW 100 (3, (b : Int), c) = some true := by decide +kernel
set_option maxHeartbeats 400000000 in
theorem rest_4_0 : ∀ b ∈ ([0, 1, 2, 3, 4] : List Int), ∀ c ∈ outs, restW 100 (4, (b : Int), c) = some true := by decide +kernel
set_option maxHeartbeats 400000000 in
theorem rest_4_1 : ∀ b ∈ ([5] : List Int), ∀ c ∈ outs, restW 100 (4, (b : Int), c) = some true := by decide +kernel
set_option maxHeartbeats 400000000 in
theorem rest_4_2 : ∀ b ∈ ([6] : List Int), ∀ c ∈ outs, restW 100 (4, (b : Int), c) = some true := by decide +kernel
set_option maxHeartbeats 400000000 in
theorem rest_4_3 : ∀ b ∈ ([7, 8, 9, 10, 11, 12] : List Int), ∀ c ∈ outs, restW 100 (4, (b : Int), c) = some true := by decide +kernel
theorem all_rest {a b c : Int} (a0 : 0 ≤ a) (a1 : a ≤ 4) (b0 : 0 ≤ b) (b1 : b ≤ 12) (hc : c ∈ outs) : restW 100 (a, b, c) = some true := by
  have hb : b ∈ ([0, 1, 2, 3, 4] : List Int) ∨ b ∈ ([5] : List Int) ∨ b ∈ ([6] : List Int) ∨ b ∈ ([7, 8, 9, 10, 11, 12] : List Int) := by simp only [List.mem_cons, List.not_mem_nil, or_false]; omega
  have ha : a = 0 ∨ a = 1 ∨ a = 2 ∨ a = 3 ∨ a = 4 := by omega
  rcases ha with rfl | rfl | rfl | rfl | rfl
  · rcases hb with h | h | h | h
    · exact rest_0_0 b h c hc
    · exact rest_0_1 b h c hc
    · exact rest_0_2 b h c hc
    · exact rest_0_3 b h c hc
  · rcases hb with h | h | h | h
    · exact rest_1_0 b h c hc
    · exact rest_1_1 b h c hc
    · exact rest_1_2 b h c hc
    · exact rest_1_3 b h c hc
  · rcases hb with h | h | h | h
    · exact rest_2_0 b h c hc
    · exact rest_2_1 b h c hc
    · exact rest_2_2 b h c hc
    · exact rest_2_3 b h c hc
  · rcases hb with h | h | h | h
    · exact rest_3_0 b h c hc
    · exact rest_3_1 b h c hc
    · exact rest_3_2 b h c hc
    · exact rest_3_3 b h c hc
  · rcases hb with h | h | h | h
    · exact rest_4_0 b h c hc
    · exact rest_4_1 b h c hc
    · exact rest_4_2 b h c hc
    · exact rest_4_3 b h c hc
theorem FnRunWords : laws_FnRunWords.Pure := by
  intro l0 _ _ hb
  refine ⟨100, ?_⟩
  unfold laws_FnRunWords.f
  by_cases hlen : (l0.length : Int) > 1048576
  · rw [if_pos hlen]
  rw [if_neg hlen]
  obtain ⟨a, b, c, e, a0, a1, b0, b1, c0, c1⟩ := draw_rw 100 (by omega) hb
  rw [e]
  simp only [Option.bind_some]
  exact all_rest a0 a1 b0 b1 (mem_outs c0 c1)

end Go.Proofs.Ytojaioejdfibhaa.Pure
