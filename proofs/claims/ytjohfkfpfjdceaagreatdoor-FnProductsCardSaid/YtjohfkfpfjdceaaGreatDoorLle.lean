/- The plain law of FnProducts. -/
import Derived.Test.YtjohfkfpfjdceaaGreatDoorLld

set_option linter.unusedSimpArgs false
set_option linter.unusedVariables false
namespace Go.Dv
open Go.Cv Ieee

theorem nab {i k : Int} {a b : Nat} (h : i.natAbs ≤ a) (h' : k.natAbs ≤ b) : (i * k).natAbs ≤ a * b := by
  rw [Int.natAbs_mul]; exact Nat.mul_le_mul h h'

/-- the product of two complex numbers of small integers -/
theorem prod_wh {a b c d : Nat} {i j k l : Int} {m : Nat} (ha : Wh .f32 a i) (hb : Wh .f32 b j) (hc : Wh .f32 c k) (hd : Wh .f32 d l) (hi : i.natAbs ≤ m) (hj : j.natAbs ≤ m) (hk : k.natAbs ≤ 200) (hl : l.natAbs ≤ 200) (hm : m ≤ 100000) :
    Wh .f64 (p_impl_product R a b c d).1 (i * k - j * l) ∧ Wh .f64 (p_impl_product R a b c d).2 (i * l + j * k) := by
  have n1 := nab hi hk
  have n2 := nab hj hl
  have n3 := nab hi hl
  have n4 := nab hj hk
  have hb' : m * 200 ≤ 20000000 := by omega
  have w1 := wh_mul (wh_wid ha) (wh_wid hc) (sml64 (by omega))
  have w2 := wh_mul (wh_wid hb) (wh_wid hd) (sml64 (by omega))
  have w3 := wh_mul (wh_wid ha) (wh_wid hd) (sml64 (by omega))
  have w4 := wh_mul (wh_wid hb) (wh_wid hc) (sml64 (by omega))
  exact ⟨wh_sub w1 w2 (sml64 (by omega)), wh_add w3 w4 (sml64 (by omega))⟩
theorem mul_wh {a b c d : Nat} {i j k l : Int} (ha : Wh .f32 a i) (hb : Wh .f32 b j) (hc : Wh .f32 c k) (hd : Wh .f32 d l) (hi : i.natAbs ≤ 200) (hj : j.natAbs ≤ 200) (hk : k.natAbs ≤ 200) (hl : l.natAbs ≤ 200) :
    r_impl_MulComplex R a b c d = true ∧ Wh .f32 (p_impl_MulComplex R a b c d).1 (i * k - j * l) ∧ Wh .f32 (p_impl_MulComplex R a b c d).2 (i * l + j * k) := by
  obtain ⟨p1, p2⟩ := prod_wh ha hb hc hd hi hj hk hl (by omega)
  have n1 := nab hi hk
  have n2 := nab hj hl
  have n3 := nab hi hl
  have n4 := nab hj hk
  obtain ⟨q1, q2⟩ := wh_nar p1 (sml32 (by omega))
  obtain ⟨q3, q4⟩ := wh_nar p2 (sml32 (by omega))
  have e0 : c0_impl_MulComplex R a b c d = p_impl_product R a b c d := rfl
  unfold r_impl_MulComplex p_impl_MulComplex
  rw [e0, q1, q3]
  exact ⟨rfl, q2, q4⟩
theorem power_wh {a b : Nat} {i j : Int} (ha : Wh .f32 a i) (hb : Wh .f32 b j) (hi : i.natAbs ≤ 200) (hj : j.natAbs ≤ 200) : Wh .f64 (p_impl_power R a b) (i * i + j * j) := by
  have n1 := nab hi hi
  have n2 := nab hj hj
  have w1 := wh_mul (wh_wid ha) (wh_wid ha) (sml64 (by omega))
  have w2 := wh_mul (wh_wid hb) (wh_wid hb) (sml64 (by omega))
  exact wh_add w1 w2 (sml64 (by omega))
theorem powerOf_wh {a b : Nat} {i j : Int} (ha : Wh .f32 a i) (hb : Wh .f32 b j) (hi : i.natAbs ≤ 200) (hj : j.natAbs ≤ 200) : r_impl_PowerOf R a b = true ∧ Wh .f32 (p_impl_PowerOf R a b) (i * i + j * j) := by
  have n1 := nab hi hi
  have n2 := nab hj hj
  obtain ⟨q1, q2⟩ := wh_nar (power_wh ha hb hi hj) (sml32 (by omega))
  have e0 : c0_impl_PowerOf R a b = p_impl_power R a b := rfl
  unfold r_impl_PowerOf p_impl_PowerOf
  rw [e0, q1]
  exact ⟨rfl, q2⟩

theorem wh_word {k : FloatKind} {a b : Nat} {n : Int} (ha : Wh k a n) (hb : Wh k b n) (hn : n ≠ 0) (la : a < 2 * k.format.signWeight) (lb : b < 2 * k.format.signWeight) : a = b := by
  obtain ⟨⟨s, m, e, hra⟩, va⟩ := ha
  obtain ⟨⟨t, m', e', hrb⟩, vb⟩ := hb
  unfold fv at va vb; rw [hra] at va; rw [hrb] at vb
  have ma := vd_mag va
  have mb := vd_mag vb
  have hp : 0 < (n.natAbs : Rat) := Rat.natCast_pos.2 (by omega)
  have hst : s = t := by
    rw [mg_nat0] at ma mb
    rw [← vb] at va
    cases s <;> cases t <;> simp only [vd_true, vd_false, ma, mb] at va <;> first | rfl | (exfalso; grind)
  subst hst
  exact word_inj k.format la lb hra hrb (by rw [ma, mb])

theorem lt64_bin (op : BinOp) (a b : Nat) : R.bin op .f64 a b < 18446744073709551616 := by
  have e : lim .f64 = 18446744073709551616 := by decide
  show (floatBits op .f64 a b).getD (nanOf .f64) < _
  cases h : floatBits op .f64 a b with
  | none => decide
  | some r => have := floatBits_lt h; rw [e] at this; exact this
theorem wid_lt {a : Nat} (h : Nm .f32 a) : R.wid a < 18446744073709551616 := by
  obtain ⟨s, m, e, hr⟩ := h
  have hn : isNan .f32 a = false := nm_not_nan ⟨_, _, _, hr⟩
  show (fconv .f32 a .f64).getD 0 < _
  unfold fconv floatToFloatBits FloatKind.decode FloatKind.encode
  rw [hn, hr, if_neg (by decide), if_neg (by decide), if_neg (by decide)]
  simp only
  split
  · decide
  · have h1 := FloatKind.f64.format.write_lt (.number s m e)
    have e2 : 2 ^ FloatKind.f64.format.width = 18446744073709551616 := by decide
    rw [e2] at h1; exact h1
theorem sign64 : 2 * FloatKind.f64.format.signWeight = 18446744073709551616 := by decide

/-- the length is the root of the power -/
theorem cabs_eq {i j : Int} (hi : i.natAbs ≤ 200) (hj : j.natAbs ≤ 200) :
    r_impl_LongOf R (R.ofi .f32 i) (R.ofi .f32 j) = true ∧ p_impl_LongOf R (R.ofi .f32 i) (R.ofi .f32 j) = p_spec_RootNumber R (R.ofi .f32 (i * i + j * j)) := by
  have n1 := nab hi hi
  have n2 := nab hj hj
  have hA : Wh .f32 (R.ofi .f32 i) i := wh_ofi (sml32 (by omega))
  have hB : Wh .f32 (R.ofi .f32 j) j := wh_ofi (sml32 (by omega))
  have hP : Wh .f32 (R.ofi .f32 (i * i + j * j)) (i * i + j * j) := wh_ofi (sml32 (by omega))
  have hp := power_wh hA hB hi hj
  have hw : p_impl_power R (R.ofi .f32 i) (R.ofi .f32 j) = R.wid (R.ofi .f32 (i * i + j * j)) := by
    by_cases hz : i * i + j * j = 0
    · have hii : i * i = ((i.natAbs * i.natAbs : Nat) : Int) := (Int.natAbs_mul_self).symm
      have hjj : j * j = ((j.natAbs * j.natAbs : Nat) : Int) := (Int.natAbs_mul_self).symm
      rw [hii, hjj] at hz
      have z1 : i.natAbs * i.natAbs = 0 := by omega
      have z2 : j.natAbs * j.natAbs = 0 := by omega
      have i0 : i = 0 := by rcases Nat.mul_eq_zero.1 z1 with h | h <;> omega
      have j0 : j = 0 := by rcases Nat.mul_eq_zero.1 z2 with h | h <;> omega
      subst i0; subst j0
      decide
    · refine wh_word hp (wh_wid hP) hz (by rw [sign64]; exact lt64_bin _ _ _) ?_
      rw [sign64]
      exact wid_lt hP.1
  have hn0 : 0 ≤ i * i + j * j := by
    have hii : i * i = ((i.natAbs * i.natAbs : Nat) : Int) := (Int.natAbs_mul_self).symm
    have hjj : j * j = ((j.natAbs * j.natAbs : Nat) : Int) := (Int.natAbs_mul_self).symm
    omega
  have hroot := sqrt_nm hp.1 (by rw [hp.2]; exact Rat.intCast_nonneg.2 hn0) (E := 9) (by
    rw [hp.2]
    have e : p2 (2 * 9) = ((262144 : Int) : Rat) := by decide +kernel
    rw [e]; exact Rat.intCast_le_intCast.2 (by omega)) (by decide) (by decide)
  have hok : R.narOk (R.sqrt (p_impl_power R (R.ofi .f32 i) (R.ofi .f32 j))) = true := narOk_bd fun h => by
    have e9 : p2 9 ≤ p2 127 := p2_mono (by decide)
    refine ⟨Rat.le_trans hroot.2.2 e9, ?_⟩
    have := p2_nonneg 127
    have := hroot.2.1
    grind
  have e0 : c0_impl_LongOf R (R.ofi .f32 i) (R.ofi .f32 j) = R.sqrt (p_impl_power R (R.ofi .f32 i) (R.ofi .f32 j)) := rfl
  unfold r_impl_LongOf p_impl_LongOf p_spec_RootNumber p_spec_l01Sqrt p_spec_l01Narrow p_math_Sqrt
  rw [e0, hok, hw]
  exact ⟨rfl, rfl⟩

/-- quotients lead back from products -/
theorem quo_wh {x y c d : Nat} {i j k l : Int} (hx : Wh .f32 x (i * k - j * l)) (hy : Wh .f32 y (i * l + j * k)) (hc : Wh .f32 c k) (hd : Wh .f32 d l) (hi : i.natAbs ≤ 200) (hj : j.natAbs ≤ 200) (hk : k.natAbs ≤ 200) (hl : l.natAbs ≤ 200) (h0 : ¬(k = 0 ∧ l = 0)) :
    r_impl_QuotientOf R x y c d = true ∧ Wh .f32 (p_impl_QuotientOf R x y c d).1 i ∧ Wh .f32 (p_impl_QuotientOf R x y c d).2 j := by
  have n1 := nab hi hk
  have n2 := nab hj hl
  have n3 := nab hi hl
  have n4 := nab hj hk
  have hpw := power_wh hc hd hk hl
  have hne : k * k + l * l ≠ 0 := by
    intro hz
    have hii : k * k = ((k.natAbs * k.natAbs : Nat) : Int) := (Int.natAbs_mul_self).symm
    have hjj : l * l = ((l.natAbs * l.natAbs : Nat) : Int) := (Int.natAbs_mul_self).symm
    rw [hii, hjj] at hz
    have z1 : k.natAbs * k.natAbs = 0 := by omega
    have z2 : l.natAbs * l.natAbs = 0 := by omega
    refine h0 ⟨?_, ?_⟩
    · rcases Nat.mul_eq_zero.1 z1 with h | h <;> omega
    · rcases Nat.mul_eq_zero.1 z2 with h | h <;> omega
  obtain ⟨p1, p2⟩ := prod_wh (m := 80000) hx hy hc (wh_neg hd) (by omega) (by omega) hk (by rw [Int.natAbs_neg]; exact hl) (by omega)
  have e1 : (i * k - j * l) * k - (i * l + j * k) * -l = i * (k * k + l * l) := by grind
  have e2 : (i * k - j * l) * -l + (i * l + j * k) * k = j * (k * k + l * l) := by grind
  rw [e1] at p1
  rw [e2] at p2
  have q1 := wh_quo p1 hpw hne (by omega)
  have q2 := wh_quo p2 hpw hne (by omega)
  obtain ⟨r1, r2⟩ := wh_nar q1 (sml32 (by omega))
  obtain ⟨r3, r4⟩ := wh_nar q2 (sml32 (by omega))
  have f3 : c3_impl_QuotientOf R x y c d = R.bin BinOp.quo FloatKind.f64 (p_impl_product R x y c (R.neg .f32 d)).1 (p_impl_power R c d) := rfl
  have f4 : c4_impl_QuotientOf R x y c d = R.bin BinOp.quo FloatKind.f64 (p_impl_product R x y c (R.neg .f32 d)).2 (p_impl_power R c d) := rfl
  unfold r_impl_QuotientOf p_impl_QuotientOf
  rw [f3, f4, r1, r3]
  exact ⟨rfl, r2, r4⟩

/-! ### any numbers -/
theorem neg_twice {x : Nat} (hx : x < 4294967296) : bw (R.neg .f32 (R.neg .f32 x)) = bw x := by
  cases hn : isNan .f32 x
  · have h1 : isNan .f32 (Op.negFloat .f32 x) = false := by rw [isNan_neg, hn]
    have h2 : R.neg .f32 x = Op.negFloat .f32 x := by show fneg .f32 x = _; unfold fneg; rw [cn_of_not h1]
    have h3 : isNan .f32 (Op.negFloat .f32 (Op.negFloat .f32 x)) = false := by rw [isNan_neg, h1]
    have h4 : R.neg .f32 (R.neg .f32 x) = x := by
      rw [h2]
      show fneg .f32 _ = _
      unfold fneg; rw [cn_of_not h3]
      unfold Op.negFloat
      rw [Nat.xor_assoc, Nat.xor_self, Nat.xor_zero]
    rw [h4]
  · have h1 : isNan .f32 (Op.negFloat .f32 x) = true := by rw [isNan_neg, hn]
    have h2 : R.neg .f32 x = nanOf .f32 := by show fneg .f32 x = _; unfold fneg; rw [cn_of_nan h1]
    have h3 : R.neg .f32 (R.neg .f32 x) = nanOf .f32 := by rw [h2]; decide
    rw [h3, bw_of_nan hn]; decide
theorem neg_lt (x : Nat) (hx : x < 4294967296) : R.neg .f32 x < 4294967296 := by
  have h1 : Op.negFloat .f32 x < lim .f32 := by
    rw [lim32]
    unfold Op.negFloat
    exact Nat.xor_lt_two_pow (n := 32) hx (by decide)
  have h2 := Go.Cv.cn_lt h1
  rw [lim32] at h2
  exact h2

theorem isame_bw {a b : Nat} (ha : a < 4294967296) (hb : b < 4294967296) : p_impl_SameNumber R a b = decide (bw a = bw b) ∧ r_impl_SameNumber R a b = true := by
  have h1 := bits_eq a ha
  have h2 := bits_eq b hb
  unfold p_impl_SameNumber r_impl_SameNumber
  rw [h1.1, h1.2.1, h2.1, h2.2.1]
  refine ⟨?_, rfl⟩
  by_cases h : bw a = bw b
  · rw [h]; simp
  · rw [decide_eq_false h]
    have : ¬ ((bw a : Int) = (bw b : Int)) := by omega
    simpa using this
theorem iscomplex {a b c d : Nat} (ha : a < 4294967296) (hb : b < 4294967296) (hc : c < 4294967296) (hd : d < 4294967296) (h1 : bw a = bw c) (h2 : bw b = bw d) : p_impl_SameComplex R a b c d = true ∧ r_impl_SameComplex R a b c d = true := by
  unfold p_impl_SameComplex r_impl_SameComplex
  rw [(isame_bw ha hc).1, (isame_bw ha hc).2, (isame_bw hb hd).1, (isame_bw hb hd).2, decide_eq_true h1, decide_eq_true h2]
  exact ⟨rfl, rfl⟩

theorem law_Products (c m : List Int) (hc : By c) (hm : By m) : r_laws_FnProducts R c m = true ∧ p_laws_FnProducts R c m = true := by
  cases h0 : p_laws_b10Long R c m
  · obtain ⟨x1, i, j, hi, hj, x2⟩ := b10Whole_ok hc
    obtain ⟨y1, k, l, hk, hl, y2⟩ := b10Whole_ok hm
    have n1 := nab hi hk
    have n2 := nab hj hl
    have n3 := nab hi hl
    have n4 := nab hj hk
    have n5 := nab hi hi
    have n6 := nab hj hj
    have hA : Wh .f32 (R.ofi .f32 i) i := wh_ofi (sml32 (by omega))
    have hB : Wh .f32 (R.ofi .f32 j) j := wh_ofi (sml32 (by omega))
    have hC : Wh .f32 (R.ofi .f32 k) k := wh_ofi (sml32 (by omega))
    have hD : Wh .f32 (R.ofi .f32 l) l := wh_ofi (sml32 (by omega))
    have hP : Wh .f32 (R.ofi .f32 (i * i + j * j)) (i * i + j * j) := wh_ofi (sml32 (by omega))
    have hX : Wh .f32 (R.ofi .f32 (i * k - j * l)) (i * k - j * l) := wh_ofi (sml32 (by omega))
    have hY : Wh .f32 (R.ofi .f32 (i * l + j * k)) (i * l + j * k) := wh_ofi (sml32 (by omega))
    have hZ : Wh .f32 0 0 := ⟨⟨_, _, _, rfl⟩, by decide +kernel⟩
    have h2 : Wh .f32 1073741824 2 := ⟨⟨_, _, _, rfl⟩, by decide +kernel⟩
    obtain ⟨u1, u2⟩ := wh_toi32 hA (by omega)
    obtain ⟨u3, u4⟩ := wh_toi32 hB (by omega)
    obtain ⟨u5, u6⟩ := wh_toi32 hC (by omega)
    obtain ⟨u7, u8⟩ := wh_toi32 hD (by omega)
    obtain ⟨lo1, lo2⟩ := cabs_eq hi hj
    generalize hEA : R.ofi .f32 i = A at *
    generalize hEB : R.ofi .f32 j = B at *
    generalize hEC : R.ofi .f32 k = C at *
    generalize hED : R.ofi .f32 l = D at *
    have e0 : c0_laws_FnProducts R c m = [(A, B)] := x2
    have e1 : c1_laws_FnProducts R c m = [(C, D)] := y2
    have g : ∀ x : Nat × Nat, ([x]).getD 0 (0, 0) = x := fun _ => rfl
    have e2 : c2_laws_FnProducts R c m = true := by unfold c2_laws_FnProducts; rw [e0, g]; exact u1
    have e3 : c3_laws_FnProducts R c m = true := by unfold c3_laws_FnProducts; rw [e1, g]; exact u5
    have e4 : c4_laws_FnProducts R c m = true := by unfold c4_laws_FnProducts; rw [e0, g]; exact u3
    have e5 : c5_laws_FnProducts R c m = true := by unfold c5_laws_FnProducts; rw [e1, g]; exact u7
    have e7 : c7_laws_FnProducts R c m = i := by unfold c7_laws_FnProducts; rw [e0, g]; exact u2
    have e8 : c8_laws_FnProducts R c m = k := by unfold c8_laws_FnProducts; rw [e1, g]; exact u6
    have e9 : c9_laws_FnProducts R c m = j := by unfold c9_laws_FnProducts; rw [e0, g]; exact u4
    have e10 : c10_laws_FnProducts R c m = l := by unfold c10_laws_FnProducts; rw [e1, g]; exact u8
    have e6 : c6_laws_FnProducts R c m = p_impl_MulComplex R A B C D := by unfold c6_laws_FnProducts; rw [e0, e1]; rfl
    have e11 : c11_laws_FnProducts R c m = p_impl_MulComplex R C D A B := by unfold c11_laws_FnProducts; rw [e0, e1]; rfl
    have hw : ∀ z : Int, z.natAbs ≤ 100000 → IntKind.i64.wrap z = z := fun z hz => wrap_small (by omega) (by omega)
    have e12 : c12_laws_FnProducts R c m = R.ofi .f32 (i * i + j * j) := by
      unfold c12_laws_FnProducts; rw [e7, e9, hw (i * i) (by omega), hw (j * j) (by omega), hw _ (by omega)]
    have e13 : c13_laws_FnProducts R c m = (A, R.neg .f32 B) := by unfold c13_laws_FnProducts; rw [e0]; rfl
    have e14 : c14_laws_FnProducts R c m = p_impl_MulComplex R A B A (R.neg .f32 B) := by unfold c14_laws_FnProducts; rw [e0, e13]; rfl
    have e15 : c15_laws_FnProducts R c m = p_impl_LongOf R A B := by unfold c15_laws_FnProducts; rw [e0]; rfl
    have e16 : c16_laws_FnProducts R c m = p_impl_LongOf R A B := by unfold c16_laws_FnProducts; rw [e12]; exact lo2.symm
    obtain ⟨m1, m2, m3⟩ := mul_wh hA hB hC hD hi hj hk hl
    obtain ⟨s1, s2, s3⟩ := mul_wh hC hD hA hB hk hl hi hj
    obtain ⟨v1, v2, v3⟩ := mul_wh hA hB hA (wh_neg hB) hi hj hi (by rw [Int.natAbs_neg]; exact hj)
    obtain ⟨po1, po2⟩ := powerOf_wh hA hB hi hj
    have d1 : R.cmp .eql .f32 (p_impl_MulComplex R A B C D).1 (R.ofi .f32 (i * k - j * l)) = true := wh_eql m2 hX
    have d2 : R.cmp .eql .f32 (p_impl_MulComplex R A B C D).2 (R.ofi .f32 (i * l + j * k)) = true := wh_eql m3 hY
    have d3 : R.cmp .eql .f32 (p_impl_MulComplex R C D A B).1 (p_impl_MulComplex R A B C D).1 = true := by
      have e : k * i - l * j = i * k - j * l := by grind
      rw [e] at s2; exact wh_eql s2 m2
    have d4 : R.cmp .eql .f32 (p_impl_MulComplex R C D A B).2 (p_impl_MulComplex R A B C D).2 = true := by
      have e : k * j + l * i = i * l + j * k := by grind
      rw [e] at s3; exact wh_eql s3 m3
    have d5 : R.cmp .neq .f32 (p_impl_PowerOf R A B) (R.ofi .f32 (i * i + j * j)) = false := by rw [cmp_neq, wh_eql po2 hP]; rfl
    have d6 : R.cmp .eql .f32 (p_impl_MulComplex R A B A (R.neg .f32 B)).1 (R.ofi .f32 (i * i + j * j)) = true := by
      have e : i * i - j * -j = i * i + j * j := by grind
      rw [e] at v2; exact wh_eql v2 hP
    have d7 : R.cmp .eql .f32 (p_impl_MulComplex R A B A (R.neg .f32 B)).2 0 = true := by
      have e : i * -j + j * i = 0 := by grind
      rw [e] at v3; exact wh_eql v3 hZ
    have dd : ∀ (z : Int) (w : Nat), Wh .f32 w z → z.natAbs ≤ 200 → R.cmp .eql .f32 (R.bin .mul .f32 w 1073741824) (R.bin .add .f32 w w) = true := fun z w hz hb => by
      have q1 := wh_mul hz h2 (sml32 (by omega))
      have q2 := wh_add hz hz (sml32 (by omega))
      have e : z * 2 = z + z := by omega
      rw [e] at q1; exact wh_eql q1 q2
    have d8 := dd i A hA hi
    have d9 := dd j B hB hj
    have z1 := wh_eql_iff hC hZ
    have z2 := wh_eql_iff hD hZ
    have qu : (R.cmp .eql .f32 C 0 && R.cmp .eql .f32 D 0) = false → r_impl_QuotientOf R (p_impl_MulComplex R A B C D).1 (p_impl_MulComplex R A B C D).2 C D = true ∧ R.cmp .eql .f32 (p_impl_QuotientOf R (p_impl_MulComplex R A B C D).1 (p_impl_MulComplex R A B C D).2 C D).1 A = true ∧ R.cmp .eql .f32 (p_impl_QuotientOf R (p_impl_MulComplex R A B C D).1 (p_impl_MulComplex R A B C D).2 C D).2 B = true := fun hq => by
      rw [z1, z2] at hq
      obtain ⟨t1, t2, t3⟩ := quo_wh m2 m3 hC hD hi hj hk hl (fun ⟨a, b⟩ => by rw [a, b] at hq; cases hq)
      exact ⟨t1, wh_eql t2 hA, wh_eql t3 hB⟩
    have e17 : c17_laws_FnProducts R c m = p_impl_QuotientOf R (p_impl_MulComplex R A B C D).1 (p_impl_MulComplex R A B C D).2 C D := by unfold c17_laws_FnProducts; rw [e6, e1]; rfl
    have e18 : c18_laws_FnProducts R c m = (R.bin .mul .f32 A 1073741824, R.bin .mul .f32 B 1073741824) := by unfold c18_laws_FnProducts; rw [e0]; rfl
    -- texts
    obtain ⟨t1, n, t2, t3⟩ := at_ok hc 0 9 (by omega) (by omega) (by omega)
    have t1 : r_laws_b10At R c 0 9 = true := t1
    obtain ⟨l1, l2, l3⟩ := b10Any_ok hm n (by omega)
    have e19 : c19_laws_FnProducts R c m = (n : Int) := t3
    generalize hL : p_spec_B10Any R m (n : Int) = L at *
    have e20 : c20_laws_FnProducts R c m = L := by unfold c20_laws_FnProducts; rw [e19, hL]
    obtain ⟨w1, w2, w3, w4⟩ := cread_back L (by omega) l3
    have e21 : c21_laws_FnProducts R c m = (p_impl_joinTexts_complex64 R L, true) := by unfold c21_laws_FnProducts; rw [e20]; exact w1
    have e24 : c24_laws_FnProducts R c m = (L.map cc, true) := by unfold c24_laws_FnProducts; rw [e21]; exact w3
    obtain ⟨f1, f2⟩ := b10Number_ok hc
    generalize hZ' : p_spec_B10Number R c = Z at *
    have e22 : c22_laws_FnProducts R c m = Z := hZ'
    have e23 : c23_laws_FnProducts R c m = p_impl_BitsOf R Z := by unfold c23_laws_FnProducts; rw [e22]
    obtain ⟨b1, b2⟩ := frombits_ok f2
    have e25 : c25_laws_FnProducts R c m = (cn .f32 (bw Z), true) := by unfold c25_laws_FnProducts; rw [e23]; exact b2
    obtain ⟨sa1, sa2⟩ := csame_run L (by omega) l3
    have e26 : c26_laws_FnProducts R c m = true := by unfold c26_laws_FnProducts; rw [e24, e20]; exact sa1
    have e27 : c27_laws_FnProducts R c m = true := by
      unfold c27_laws_FnProducts; rw [e25, e22]
      show p_spec_SameNumber R (cn .f32 (bw Z)) Z = true
      rw [same_bw (cn_lt _ (bits_eq _ f2).2.2) f2]; exact dt (bw_cn Z)
    obtain ⟨bc1, bc2, bc3⟩ := b10Complex_ok hc
    generalize hV : p_spec_B10Complex R c = V at *
    have e28 : c28_laws_FnProducts R c m = V := hV
    have e29 : c29_laws_FnProducts R c m = R.wid V.1 := by unfold c29_laws_FnProducts; rw [e28]
    have e30 : c30_laws_FnProducts R c m = R.wid V.2 := by unfold c30_laws_FnProducts; rw [e28]
    obtain ⟨nw1, nw2⟩ := narrow_wid bc2
    obtain ⟨nw3, nw4⟩ := narrow_wid bc3
    have e31 : c31_laws_FnProducts R c m = (R.nar (R.wid V.1), R.nar (R.wid V.2)) := by unfold c31_laws_FnProducts; rw [e29, e30]; rfl
    have rn : r_impl_NarrowComplex R (R.wid V.1) (R.wid V.2) = true := by unfold r_impl_NarrowComplex; rw [nw1, nw3]; rfl
    obtain ⟨sc1, sc2⟩ := iscomplex (cw_nar (R.wid V.1)).1 (cw_nar (R.wid V.2)).1 bc2 bc3 nw2 nw4
    have e32 : c32_laws_FnProducts R c m = true := by unfold c32_laws_FnProducts; rw [e31, e28]; exact sc1
    have e33 : c33_laws_FnProducts R c m = (V.1, R.neg .f32 V.2) := by unfold c33_laws_FnProducts; rw [e28]; rfl
    have e34 : c34_laws_FnProducts R c m = (V.1, R.neg .f32 (R.neg .f32 V.2)) := by unfold c34_laws_FnProducts; rw [e33]; rfl
    obtain ⟨sd1, sd2⟩ := iscomplex bc2 (neg_lt _ (neg_lt _ bc3)) bc2 bc3 rfl (neg_twice bc3)
    have e35 : c35_laws_FnProducts R c m = true := by unfold c35_laws_FnProducts; rw [e34, e28]; exact sd1
    have fin : ∀ x, p_impl_IsFinite R x = p_spec_IsFinite R x := fun x => isFinite_wide x
    have e36 : c36_laws_FnProducts R c m = p_impl_IsFinite R V.1 := by unfold c36_laws_FnProducts; rw [e28, fin]
    have rsame : ∀ a b, r_spec_SameNumber R a b = true := r_same
    have efin : (p_impl_IsFiniteComplex R V.1 V.2 == (bif p_impl_IsFinite R V.1 then p_spec_IsFinite R V.2 else false)) = true := by
      unfold p_impl_IsFiniteComplex
      rw [fin V.2]
      cases p_impl_IsFinite R V.1 <;> simp
    have hfin : (bif p_impl_IsFinite R V.1 then p_impl_IsFiniteComplex R V.1 V.2 == p_spec_IsFinite R V.2 else p_impl_IsFiniteComplex R V.1 V.2 == false) = true := by
      cases hq : p_impl_IsFinite R V.1
      · rw [hq] at efin; exact efin
      · rw [hq] at efin; exact efin
    unfold r_laws_FnProducts p_laws_FnProducts
    rw [h0, e0, e1, e2, e3, e4, e5, e6, e7, e8, e9, e10, e11, e12, e13, e14, e15, e16, e17, e18, e19, e20, e21, e22, e23, e24, e25, e26, e27, e28, e29, e30, e31, e32, e34, e35, e36, x1, y1]
    simp only [g]
    rw [hw (i * k) (by omega), hw (j * l) (by omega), hw (i * l) (by omega), hw (j * k) (by omega), hw (i * k - j * l) (by omega), hw (i * l + j * k) (by omega)]
    rw [m1, s1, v1, po1, lo1, d1, d2, d3, d4, d5, d6, d7, d8, d9, same_refl, rsame, rsame, t1, l1, w2, w4, f1, (bits_eq Z f2).2.1, b1, bc1, sa2, rn, sc2, sd2]
    simp only [Nat.beq_refl, hfin, Bool.and_true, Bool.true_and, Bool.not_true, Bool.not_false, cond_false, cond_true]
    cases hq : (R.cmp .eql .f32 C 0 && R.cmp .eql .f32 D 0)
    · obtain ⟨q1, q2, q3⟩ := qu hq
      rw [q1, q2, q3]
      exact ⟨rfl, rfl⟩
    · exact ⟨rfl, rfl⟩
  · unfold r_laws_FnProducts p_laws_FnProducts
    rw [h0]; exact ⟨rfl, rfl⟩
end Go.Dv
