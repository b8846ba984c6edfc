/- Steps of places, exactly: a place of steps is a number of 2^-24, and its steps are found again. -/
import Derived.Test.YtgfplcpjnlignaaDoorLg
import Derived.Test.YtgfplcpjnlignaaDoorLhc

set_option linter.unusedSimpArgs false
set_option linter.unusedVariables false
namespace Go.Dv
open Go.Cv Ieee

/-- the word holds an integer of units 2^e -/
def Wv (k : FloatKind) (w : Nat) (i : Int) (e : Int) : Prop := Nm k w ∧ fv k w = (i : Rat) * p2 e

theorem mgp (n : Nat) (f : Int) : mg n f = (n : Rat) * p2 f := rfl
theorem vd_mag2 {s : Bool} {m : Nat} {e : Int} {i f : Int} (h : vd (.number s m e) = (i : Rat) * p2 f) : mg m e = mg i.natAbs f := by
  have hg := mg_nonneg m e
  have hn := mg_nonneg i.natAbs f
  have hp := p2_pos f
  rw [mgp i.natAbs] at *
  rcases abs_cast i with ⟨h1, _⟩ | ⟨h1, _⟩ <;> rw [h1] at h <;> cases s <;> simp only [vd_true, vd_false] at h <;> grind

theorem nearest_wv (k : FloatKind) (s : Bool) (m : Nat) (e : Int) (i f : Int) (h : vd (.number s m e) = (i : Rat) * p2 f) (hi : Sml k i) (h1 : loP k ≤ f) (h2 : f + 1 ≤ topE k) : Wv k (k.format.nearest s m e) i f := by
  have hm := vd_mag2 h
  obtain ⟨m', e', hr, hv⟩ := nearest_exact k.format (exp3 k) s m e i.natAbs f hi (by rw [least_eq]; exact h1) (top_of hi h2) hm
  refine ⟨⟨_, _, _, hr⟩, ?_⟩
  unfold fv; rw [hr, ← h]
  cases s <;> simp only [vd_true, vd_false, hv, hm]

theorem wv_mul {k : FloatKind} {a b : Nat} {i f : Int} (ha : Nm k a) (hb : Nm k b) (h : fv k a * fv k b = (i : Rat) * p2 f) (hi : Sml k i) (h1 : loP k ≤ f) (h2 : f + 1 ≤ topE k) : Wv k (R.bin .mul k a b) i f := by
  obtain ⟨s, m, e, hra⟩ := ha
  obtain ⟨t, n, g, hrb⟩ := hb
  unfold fv at h; rw [hra, hrb] at h
  obtain ⟨hs, hv⟩ := product_num s m e t n g
  have : R.bin .mul k a b = k.format.nearest (s ^^ t) (m * n) (e + g) := by
    show (k.format.mul a b).getD (nanOf k) = _
    unfold Format.mul
    rw [hra, hrb, hs]; rfl
  rw [this]
  exact nearest_wv k _ _ _ _ _ (by rw [hv, h]) hi h1 h2
theorem wv_add {k : FloatKind} {a b : Nat} {i f : Int} (ha : Nm k a) (hb : Nm k b) (h : fv k a + fv k b = (i : Rat) * p2 f) (hi : Sml k i) (h1 : loP k ≤ f) (h2 : f + 1 ≤ topE k) : Wv k (R.bin .add k a b) i f := by
  obtain ⟨s, m, e, hra⟩ := ha
  obtain ⟨t, n, g, hrb⟩ := hb
  unfold fv at h; rw [hra, hrb] at h
  obtain ⟨s', m', e', hs, hv⟩ := sum_num s m e t n g
  have : R.bin .add k a b = k.format.nearest s' m' e' := by
    show (k.format.add a b).getD (nanOf k) = _
    unfold Format.add
    rw [hra, hrb, hs]; rfl
  rw [this]
  exact nearest_wv k _ _ _ _ _ (by rw [hv, h]) hi h1 h2

/-- a small integer over a power of two -/
theorem wv_quo {a b : Nat} {i : Int} {E : Nat} (ha : Wh .f32 a i) (hi : i.natAbs ≤ 16777216) (hb : ∃ n j, FloatKind.f32.format.read b = .number false n j ∧ n ≠ 0 ∧ mg n j = p2 E) (hE : E ≤ 40) : Wv .f32 (R.bin .quo .f32 a b) i (-(E : Int)) := by
  obtain ⟨⟨s, m, e, hra⟩, va⟩ := ha
  obtain ⟨n, j, hrb, hn, hbv⟩ := hb
  unfold fv at va; rw [hra] at va
  have ma := vd_mag va
  have hn0 : 0 < n := Nat.pos_of_ne_zero hn
  have hform : R.bin .quo .f32 a b = FloatKind.f32.format.nearest (s ^^ false) (2 * ((m <<< (25 + n.log2 - m.log2)) / n) + ((m <<< (25 + n.log2 - m.log2)) % n != 0).toNat) (e - j - ((25 + n.log2 - m.log2 : Nat) : Int) - 1) := by
    show (FloatKind.f32.format.div a b).getD (nanOf .f32) = _
    unfold Format.div
    rw [hra, hrb]
    simp only [Datum.quotient, if_neg hn]
    rfl
  have hK : mg m e = mg (i.natAbs * n) (j - E) := by
    have h1 : mg (i.natAbs * n) (j - E) = (i.natAbs : Rat) * (mg n j * p2 (-(E : Int))) := by
      rw [← mg_p2]; unfold mg; rw [Rat.natCast_mul, Rat.mul_assoc]
      rfl
    have h2 : p2 (E : Int) * p2 (-(E : Int)) = 1 := by rw [← p2_add, Int.add_right_neg]; exact p2_zero
    rw [ma, h1, hbv, h2, Rat.mul_one, mg_nat0]
  have hmag : mg (2 * ((m <<< (25 + n.log2 - m.log2)) / n) + ((m <<< (25 + n.log2 - m.log2)) % n != 0).toNat) (e - j - ((25 + n.log2 - m.log2 : Nat) : Int) - 1) = mg i.natAbs (-(E : Int)) := by
    by_cases hm : m = 0
    · subst hm
      have hq0 : i.natAbs = 0 := by
        rw [mg_zero, ← mg_zero (j - E), mg_eq] at hK
        rcases Nat.mul_eq_zero.1 hK.symm with h | h
        · exact h
        · exact absurd h hn
      rw [hq0, mg_zero]
      have : 0 <<< (25 + n.log2 - Nat.log2 0) = 0 := by simp
      rw [this]
      simp [mg_zero]
    · generalize hmore : 25 + n.log2 - m.log2 = more
      have hge : n * 2 ^ 24 ≤ m <<< more := by
        have h1 : 2 ^ m.log2 ≤ m := Nat.log2_self_le hm
        have h2 : n < 2 ^ (n.log2 + 1) := Nat.lt_log2_self
        rw [Nat.shiftLeft_eq]
        have h3 : 2 ^ m.log2 * 2 ^ more ≤ m * 2 ^ more := Nat.mul_le_mul_right _ h1
        rw [← Nat.pow_add] at h3
        have h4 : 2 ^ (n.log2 + 1 + 24) ≤ 2 ^ (m.log2 + more) := Nat.pow_le_pow_right (by decide) (by omega)
        rw [Nat.pow_add _ (n.log2 + 1) 24] at h4
        have h5 : n * 2 ^ 24 ≤ 2 ^ (n.log2 + 1) * 2 ^ 24 := Nat.mul_le_mul_right _ (Nat.le_of_lt h2)
        exact Nat.le_trans h5 (Nat.le_trans h4 h3)
      have hD : mg (m <<< more) (e - more) = mg m e := by
        rw [mg_shift (show e - (more : Int) ≤ e by omega), Nat.shiftLeft_eq]
        congr 3; omega
      rw [hK] at hD
      generalize m <<< more = D at *
      have e1 : e - (more : Int) = (e - j - more) + j := by omega
      rw [e1] at hD
      generalize e - j - (more : Int) = U at *
      by_cases hU : U ≤ -(E : Int)
      · rw [mg_shift (show U + j ≤ j - E by omega), mg_eq] at hD
        have e2 : (j - E - (U + j)).toNat = (-(E : Int) - U).toNat := by omega
        rw [e2] at hD
        have h5 : D = n * (i.natAbs * 2 ^ (-(E : Int) - U).toNat) := by rw [hD, Nat.mul_comm i.natAbs n, Nat.mul_assoc]
        have h6 : D / n = i.natAbs * 2 ^ (-(E : Int) - U).toNat := by rw [h5]; exact Nat.mul_div_cancel_left _ hn0
        have h7 : D % n = 0 := by rw [h5]; exact Nat.mul_mod_right _ _
        rw [h6, h7]
        have h8 : (2 * (i.natAbs * 2 ^ (-(E : Int) - U).toNat) + ((0 : Nat) != 0).toNat) = 2 * (i.natAbs * 2 ^ (-(E : Int) - U).toNat) := by simp
        rw [h8, mg_double]
        have e3 : U - 1 + 1 = U := by omega
        rw [e3, mg_shift hU]
      · exfalso
        rw [mg_shift (show j - E ≤ U + j by omega), mg_eq] at hD
        have e4 : (U + j - (j - E)).toNat = (U + E - 1).toNat + 1 := by omega
        rw [e4, Nat.pow_succ] at hD
        have h5 : D * (1 * 2) ≤ D * (2 ^ (U + E - 1).toNat * 2) := Nat.mul_le_mul_left _ (Nat.mul_le_mul_right _ (Nat.one_le_two_pow))
        have h6 : i.natAbs * n ≤ 16777216 * n := Nat.mul_le_mul_right _ hi
        have h7 : n * 2 ^ 24 = 16777216 * n := Nat.mul_comm _ _
        omega
  rw [hform]
  refine nearest_wv .f32 _ _ _ _ _ ?_ (sml32 hi) (by show -149 ≤ -(E : Int); omega) (by show -(E : Int) + 1 ≤ 104; omega)
  rw [Bool.xor_false]
  have hsg : vd (.number s (2 * ((m <<< (25 + n.log2 - m.log2)) / n) + ((m <<< (25 + n.log2 - m.log2)) % n != 0).toNat) (e - j - ((25 + n.log2 - m.log2 : Nat) : Int) - 1)) = vd (.number s m e) * p2 (-(E : Int)) := by
    cases s
    · rw [vd_false, vd_false, hmag, ma, mg_nat0]; rfl
    · rw [vd_true, vd_true, hmag, ma, mg_nat0, Rat.neg_mul]; rfl
  rw [hsg, va]

theorem den24 : ∃ n j, FloatKind.f32.format.read 1266679808 = .number false n j ∧ n ≠ 0 ∧ mg n j = p2 ((24 : Nat) : Int) := ⟨_, _, rfl, by decide, by decide +kernel⟩
/-- a number of steps -/
def Stp (w : Nat) (n : Int) : Prop := Nm .f32 w ∧ fv .f32 w = (n : Rat) * p2 (-24)
theorem st_of {n : Int} (h : n.natAbs ≤ 16777216) : Stp (R.bin .quo .f32 (R.ofi .f32 n) 1266679808) n := wv_quo (wh_ofi (sml32 h)) h den24 (by decide)
/-- the floor of a half more -/
theorem floor_half {w : Nat} {n : Int} (h : Wv .f64 w (2 * n + 1) (-1)) (hn : n.natAbs ≤ 100000000) : Wh .f64 (R.floor w) n := by
  obtain ⟨⟨s, m, e, hr⟩, hv⟩ := h
  unfold fv at hv; rw [hr] at hv
  have hnn : isNan .f64 w = false := nm_not_nan ⟨_, _, _, hr⟩
  have hf : R.floor w = FloatKind.f64.format.nearest s (Toward.down.cut s (m <<< e.toNat) (-e).toNat) 0 := by
    show ffloor .down w = _
    unfold ffloor
    rw [hnn, decode_eq, hr]
    rw [if_neg (by decide)]
    unfold FloatKind.encode Datum.integral
    simp only [Format.write]
  have hm := vd_mag2 hv
  have hg := mg_nonneg m e
  have hp : p2 (-1) = 1 / 2 := p2_m1
  have hmag : mg m e = ((2 * n + 1).natAbs : Rat) / 2 := by rw [hm, mgp, hp]; grind
  have key : vd (.number s (Toward.down.cut s (m <<< e.toNat) (-e).toNat) 0) = (n : Rat) := by
    cases s
    · rw [vd_false] at hv ⊢
      have hpos : 0 ≤ 2 * n + 1 := by
        refine Int.not_lt.1 fun hc => ?_
        have h1 : ((2 * n + 1 : Int) : Rat) < ((0 : Int) : Rat) := Rat.intCast_lt_intCast.2 hc
        have h0 : ((0 : Int) : Rat) = 0 := rfl
        rw [hp] at hv
        grind
      have en : ((2 * n + 1).natAbs : Nat) = 2 * n.natAbs + 1 := by omega
      have hcut : Toward.down.cut false (m <<< e.toNat) (-e).toNat = wholeOf m e := cut_down_pos _ _
      have hK : wholeOf m e = n.natAbs := by
        have l1 := wholeOf_le m e
        have l2 := wholeOf_lt m e
        rw [hmag, mg_nat0, en] at l1 l2
        have c1 : ((2 * n.natAbs + 1 : Nat) : Rat) = 2 * (n.natAbs : Rat) + 1 := by rw [Rat.natCast_add, Rat.natCast_mul]; rfl
        rw [c1] at l1 l2
        have l1' : ((2 * wholeOf m e : Nat) : Rat) ≤ ((2 * n.natAbs + 1 : Nat) : Rat) := by rw [c1, Rat.natCast_mul]; have : ((2 : Nat) : Rat) = 2 := rfl; grind
        have l2' : ((2 * n.natAbs + 1 : Nat) : Rat) ≤ ((2 * (wholeOf m e + 1) : Nat) : Rat) := by
          rw [c1, Rat.natCast_mul]; have : ((2 : Nat) : Rat) = 2 := rfl; grind
        have l1 := Rat.natCast_le_natCast.1 l1'
        have l2 := Rat.natCast_le_natCast.1 l2'
        omega
      rw [hcut, hK, mg_nat0]
      rcases abs_cast n with ⟨h1, _⟩ | ⟨h1, h2⟩
      · exact h1.symm
      · have : n = 0 := by omega
        subst this; rfl
    · rw [vd_true] at hv ⊢
      have hneg : 2 * n + 1 ≤ 0 := by
        refine Int.not_lt.1 fun hc => ?_
        have h1 : ((0 : Int) : Rat) < ((2 * n + 1 : Int) : Rat) := Rat.intCast_lt_intCast.2 hc
        have h0 : ((0 : Int) : Rat) = 0 := rfl
        rw [hp] at hv
        grind
      have en : ((2 * n + 1).natAbs : Nat) + 1 = 2 * n.natAbs := by omega
      have hK : Toward.down.cut true (m <<< e.toNat) (-e).toNat = n.natAbs := by
        have c1 : ((2 * n + 1).natAbs : Rat) + 1 = 2 * (n.natAbs : Rat) := by
          have h1 : (((2 * n + 1).natAbs + 1 : Nat) : Rat) = ((2 * n.natAbs : Nat) : Rat) := by rw [en]
          rw [Rat.natCast_add, Rat.natCast_mul] at h1
          exact h1
        have u1 : Toward.down.cut true (m <<< e.toNat) (-e).toNat ≤ n.natAbs := cut_down_le _ _ _ _ ((units_le _ _ _).1 (by rw [hmag, mg_nat0]; grind))
        have u2 := (units_le m e (Toward.down.cut true (m <<< e.toNat) (-e).toNat)).2 (le_cut_down _ _)
        generalize Toward.down.cut true (m <<< e.toNat) (-e).toNat = K at *
        rw [hmag, mg_nat0] at u2
        have u3 : ((2 * n.natAbs : Nat) : Rat) ≤ ((2 * K + 1 : Nat) : Rat) := by
          have e1 : ((2 * K + 1 : Nat) : Rat) = 2 * (K : Rat) + 1 := by rw [Rat.natCast_add, Rat.natCast_mul]; rfl
          have e2 : ((2 * n.natAbs : Nat) : Rat) = 2 * (n.natAbs : Rat) := by rw [Rat.natCast_mul]; rfl
          rw [e1, e2]; grind
        have u4 := Rat.natCast_le_natCast.1 u3
        omega
      rw [hK, mg_nat0]
      rcases abs_cast n with ⟨h1, h2⟩ | ⟨h1, _⟩
      · have : n = 0 := by omega
        subst this; rfl
      · exact h1.symm
  rw [hf]
  exact nearest_wh .f64 _ _ _ _ key (sml64 (by omega))

/-- whole parts of wide numbers -/
theorem wh_toi64 {a : Nat} {i : Int} (h : Wh .f64 a i) (hi : i.natAbs ≤ 1000000000) : R.toiOk .f64 a .i64 = true ∧ R.toi .f64 a .i64 = i := by
  obtain ⟨⟨s, m, e, hr⟩, hv⟩ := h
  unfold fv at hv; rw [hr] at hv
  have hm := vd_mag hv
  have hw : wholeOf m e = i.natAbs := by
    have h1 := (units_le m e i.natAbs).1 (by rw [hm]; exact Rat.le_refl)
    have h2 := (le_units m e i.natAbs).1 (by rw [hm]; exact Rat.le_refl)
    unfold wholeOf
    rw [Nat.le_antisymm h1 h2]
    exact Nat.mul_div_cancel _ (Nat.two_pow_pos _)
  have h0 : i.natAbs <<< 0 = i.natAbs := by simp
  have hsg : signed s (wholeOf m e) 0 = i := by
    unfold signed
    rw [hw, h0]
    rcases abs_cast i with ⟨h1, h2⟩ | ⟨h1, h2⟩
    · by_cases hz : i = 0
      · subst hz; cases s <;> rfl
      · cases s
        · show ((i.natAbs : Nat) : Int) = i; omega
        · exfalso
          rw [vd_true, hm, mg_nat0, h1] at hv
          have : 0 < (i.natAbs : Rat) := Rat.natCast_pos.2 (by omega)
          grind
    · by_cases hz : i = 0
      · subst hz; cases s <;> rfl
      · cases s
        · exfalso
          rw [vd_false, hm, mg_nat0, h1] at hv
          have : 0 < (i.natAbs : Rat) := Rat.natCast_pos.2 (by omega)
          grind
        · show -((i.natAbs : Nat) : Int) = i; omega
  have h1 : ftoi .f64 a .i64 = some i := by
    unfold ftoi floatToIntVal
    have h2 : (FloatKind.f64.decode a).toInt .zero = some (signed s (wholeOf m e) 0) := by
      rw [decode_eq, hr]
      unfold Datum.toInt Datum.integral
      simp only [cut_zero_eq]
      rfl
    rw [h2, hsg]
    have h3 : IntKind.i64.min ≤ i ∧ i ≤ IntKind.i64.max := by
      have a1 : IntKind.i64.min = -9223372036854775808 := by decide
      have a2 : IntKind.i64.max = 9223372036854775807 := by decide
      rw [a1, a2]; omega
    simp only
    rw [if_pos h3]
  exact ⟨by show (ftoi .f64 a .i64).isSome = true; rw [h1]; rfl, by show (ftoi .f64 a .i64).getD 0 = i; rw [h1]; rfl⟩

theorem fv_16m : Nm .f64 4715268809856909312 ∧ fv .f64 4715268809856909312 = p2 24 := ⟨⟨_, _, _, rfl⟩, by decide +kernel⟩
theorem fv_half64 : Nm .f64 4602678819172646912 ∧ fv .f64 4602678819172646912 = p2 (-1) := ⟨⟨_, _, _, rfl⟩, by decide +kernel⟩
theorem stepOf_st {w : Nat} {n : Int} (h : Stp w n) (hn : n.natAbs ≤ 16777216) : p_impl_stepOf R w = n ∧ r_impl_stepOf R w = true := by
  obtain ⟨h1, h2⟩ := wid_nm h.1
  have hm : Wv .f64 (R.bin .mul .f64 (R.wid w) 4715268809856909312) n 0 := wv_mul h1 fv_16m.1 (by
    rw [h2, h.2, fv_16m.2, Rat.mul_assoc, ← p2_add]; rfl) (sml64 (by omega)) (by decide) (by decide)
  have ha : Wv .f64 (R.bin .add .f64 (R.bin .mul .f64 (R.wid w) 4715268809856909312) 4602678819172646912) (2 * n + 1) (-1) := wv_add hm.1 fv_half64.1 (by
    rw [hm.2, fv_half64.2, p2_zero, p2_m1, Rat.intCast_add, Rat.intCast_mul]
    have e1 : ((1 : Int) : Rat) = 1 := rfl
    have e2 : ((2 : Int) : Rat) = 2 := rfl
    rw [e1, e2]; grind) (sml64 (by omega)) (by decide) (by decide)
  obtain ⟨t1, t2⟩ := wh_toi64 (floor_half ha (by omega)) (by omega)
  have e0 : c0_impl_stepOf R w = R.floor (R.bin .add .f64 (R.bin .mul .f64 (R.wid w) 4715268809856909312) 4602678819172646912) := rfl
  unfold p_impl_stepOf r_impl_stepOf
  rw [e0, t1, t2]
  exact ⟨rfl, rfl⟩

theorem st_le {w v : Nat} {n m : Int} (h : Stp w n) (h' : Stp v m) (hnm : n ≤ m) : fv .f32 w ≤ fv .f32 v := by
  rw [h.2, h'.2]
  exact Rat.mul_le_mul_of_nonneg_right (Rat.intCast_le_intCast.2 hnm) (p2_nonneg _)
theorem st_lt {w v : Nat} {n m : Int} (h : Stp w n) (h' : Stp v m) (hnm : n < m) : fv .f32 w < fv .f32 v := by
  rw [h.2, h'.2]
  exact Rat.mul_lt_mul_of_pos_right (Rat.intCast_lt_intCast.2 hnm) (p2_pos _)
theorem st_nq : Stp 3196059648 (-4194304) := ⟨⟨_, _, _, rfl⟩, by decide +kernel⟩
theorem st_q : Stp 1048576000 4194304 := ⟨⟨_, _, _, rfl⟩, by decide +kernel⟩
theorem st_nh : Stp 3204448256 (-8388608) := ⟨⟨_, _, _, rfl⟩, by decide +kernel⟩
theorem st_h : Stp 1056964608 8388608 := ⟨⟨_, _, _, rfl⟩, by decide +kernel⟩
theorem valid_st {a b : Nat} {n e : Int} (ha : Stp a n) (hb : Stp b e) (h1 : -4194304 ≤ n) (h2 : n ≤ 4194304) (h3 : -8388608 ≤ e) (h4 : e < 8388608) : p_impl_ValidPlace R a b = true := by
  unfold p_impl_ValidPlace p_impl_inside
  rw [geq_nm ha.1 st_nq.1, leq_nm ha.1 st_q.1, geq_nm hb.1 st_nh.1, lss_nm hb.1 st_h.1, decide_eq_true (st_le st_nq ha h1), decide_eq_true (st_le ha st_q h2), decide_eq_true (st_le st_nh hb h3), decide_eq_true (st_lt hb st_h h4)]
  rfl
/-- steps are found again -/
theorem stepsOf_st {a b : Nat} {n e : Int} (ha : Stp a n) (hb : Stp b e) (h1 : -4194304 ≤ n) (h2 : n ≤ 4194304) (h3 : -8388608 ≤ e) (h4 : e < 8388608) : p_impl_StepsOf R a b = (n, e, true) ∧ r_impl_StepsOf R a b = true := by
  obtain ⟨s1, s2⟩ := stepOf_st ha (by omega)
  obtain ⟨s3, s4⟩ := stepOf_st hb (by omega)
  have e0 : c0_impl_StepsOf R a b = e := s3
  have e1 : (e == 8388608) = false := by
    have : ¬ e = 8388608 := by omega
    simpa using this
  unfold p_impl_StepsOf r_impl_StepsOf
  rw [valid_st ha hb h1 h2 h3 h4, e0, e1, s1, s2, s4]
  exact ⟨rfl, rfl⟩
theorem place_st {n e : Int} (h1 : -4194304 ≤ n) (h2 : n ≤ 4194304) (h3 : -8388608 ≤ e) (h4 : e < 8388608) :
    p_impl_PlaceOfSteps R n e = (R.bin .quo .f32 (R.ofi .f32 n) 1266679808, R.bin .quo .f32 (R.ofi .f32 e) 1266679808, true) := by
  have w1 : p_impl_within R n (Int.negSucc 4194303) 4194304 = true := by
    unfold p_impl_within
    rw [dt (show Int.negSucc 4194303 ≤ n by omega), dt h2]; rfl
  have w2 : p_impl_within R e (Int.negSucc 8388607) 8388607 = true := by
    unfold p_impl_within
    rw [dt (show Int.negSucc 8388607 ≤ e by omega), dt (show e ≤ 8388607 by omega)]; rfl
  unfold p_impl_PlaceOfSteps
  rw [w1, w2]; rfl
end Go.Dv
