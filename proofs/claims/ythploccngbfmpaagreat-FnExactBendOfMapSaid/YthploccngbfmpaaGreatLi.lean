/- Scales, ratios, angles between steps and axes: both texts are the same. -/
import Derived.Test.YthploccngbfmpaaGreatLc
import Derived.Test.YthploccngbfmpaaGreatWr
set_option linter.unusedSimpArgs false
namespace Go.Dv
open Go.Cv
open Ieee

theorem long_gen (M : FOps) (x y : Nat) : p_impl_LongOf M x y = p_spec_l01Long M x y ∧ r_impl_LongOf M x y = (M.narOk (M.sqrt (p_spec_l01PowerWide M x y)) && true) ∧ r_spec_l01Long M x y = ((M.narOk (M.sqrt (p_spec_l01PowerWide M x y)) && true) && true) := ⟨rfl, rfl, rfl⟩
theorem long_same (x y : Nat) : p_impl_LongOf R x y = p_spec_l01Long R x y := (long_gen R x y).1
theorem long_root {x y : Nat} {E : Int} (hx : Bk .f32 x E) (hy : Bk .f32 y E) (h0 : 0 ≤ E) (h1 : E ≤ 100) : Bd (R.sqrt (p_spec_l01PowerWide R x y)) (E + 1) := by
  have wx := bk_wid hx
  have wy := bk_wid hy
  have mx := bd_mul wx wx (by omega) (by omega)
  have my := bd_mul wy wy (by omega) (by omega)
  have sq : ∀ q : Rat, 0 ≤ q * q := fun q => by
    by_cases h : 0 ≤ q
    · exact Rat.mul_nonneg h h
    · have : q * q = (-q) * (-q) := by grind
      rw [this]; exact Rat.mul_nonneg (by grind) (by grind)
  have px := (rd_mul wx.1 wx.1).pos (sq _) mx.1
  have py := (rd_mul wy.1 wy.1).pos (sq _) my.1
  have s := bd_add mx my (by omega) (by omega)
  have ps := (rd_add mx.1 my.1).pos (by grind) s.1
  have hle : fv .f64 (R.bin .add .f64 (R.bin .mul .f64 (R.wid x) (R.wid x)) (R.bin .mul .f64 (R.wid y) (R.wid y))) ≤ p2 (2 * (E + 1)) := Rat.le_trans s.2.1 (p2_mono (by omega))
  obtain ⟨q1, q2, q3⟩ := sqrt_nm s.1 ps hle (by omega) (by omega)
  exact ⟨q1, q3, by have := p2_nonneg (E + 1); show -(fv .f64 (R.sqrt (R.bin .add .f64 (R.bin .mul .f64 (R.wid x) (R.wid x)) (R.bin .mul .f64 (R.wid y) (R.wid y))))) ≤ _; grind⟩
theorem long_ok {x y : Nat} {E : Int} (hx : Bk .f32 x E) (hy : Bk .f32 y E) (h0 : 0 ≤ E) (h1 : E ≤ 100) : r_impl_LongOf R x y = true ∧ r_spec_l01Long R x y = true ∧ Bk .f32 (p_spec_l01Long R x y) (E + 1) := by
  have hb := long_root hx hy h0 h1
  have hk := bd_narOk hb (by omega)
  have e1 := (long_gen R x y).2.1
  have e2 := (long_gen R x y).2.2
  exact ⟨by rw [e1, hk]; rfl, by rw [e2, hk]; rfl, bk_nar hb (by omega) (by omega)⟩
theorem long_ok0 : r_impl_LongOf R 0 0 = true := (long_ok (bk_zero32 0) (bk_zero32 0) (by decide) (by decide)).1

/-! ### scales -/
theorem finite_no (x : Nat) : p_impl_finite R x false = (0, false) := rfl
theorem east_eq (k : Int) (a b f c d : Nat) : p_impl_EastScale R k a b f c d = p_spec_EastScale R k a b f c d ∧ r_impl_EastScale R k a b f c d = true ∧ r_spec_EastScale R k a b f c d = true := by
  have e1 : p_impl_EastScale R k a b f c d = c1_impl_EastScale R k a b f c d := rfl
  rw [e1]
  unfold c1_impl_EastScale p_spec_EastScale c1_spec_EastScale r_impl_EastScale r_spec_EastScale c0_impl_EastScale c0_spec_EastScale
  rw [(steps_ok _ _ _ _ _ _).1, (steps_ok _ _ _ _ _ _).2]
  rcases steps_bk k a b f c d with ⟨h1, h2⟩ | ⟨u0, u1, v0, v1, h1, h2, b1, b2, _, _⟩
  · rw [h1, h2]
    simp only [Bool.not_false, cond_true, finite_no, long_ok0, Bool.and_self, and_self]
  · obtain ⟨l1, l2, _⟩ := long_ok b1 b2 (by decide) (by decide)
    rw [h1, h2]
    simp only [Bool.not_true, cond_false, number_eq, long_same, l1, l2, Bool.and_self, and_self]
theorem north_scale_eq (k : Int) (a b f c d : Nat) : p_impl_NorthScale R k a b f c d = p_spec_NorthScale R k a b f c d ∧ r_impl_NorthScale R k a b f c d = true ∧ r_spec_NorthScale R k a b f c d = true := by
  have e1 : p_impl_NorthScale R k a b f c d = c0_impl_NorthScale R k a b f c d := rfl
  rw [e1]
  unfold c0_impl_NorthScale p_spec_NorthScale c0_spec_NorthScale r_impl_NorthScale r_spec_NorthScale
  rw [(steps_ok _ _ _ _ _ _).1, (steps_ok _ _ _ _ _ _).2]
  rcases steps_bk k a b f c d with ⟨h1, h2⟩ | ⟨u0, u1, v0, v1, h1, h2, _, _, b1, b2⟩
  · rw [h1, h2]
    simp only [Bool.not_false, cond_true, finite_no, long_ok0, Bool.and_self, and_self]
  · obtain ⟨l1, l2, _⟩ := long_ok b1 b2 (by decide) (by decide)
    rw [h1, h2]
    simp only [Bool.not_true, cond_false, number_eq, long_same, l1, l2, Bool.and_self, and_self]

theorem law_EastScale (k : Int) (a b f c d : Nat) : r_laws_FnExactEastScale R k a b f c d = true ∧ p_laws_FnExactEastScale R k a b f c d = true := by
  unfold r_laws_FnExactEastScale p_laws_FnExactEastScale c2_laws_FnExactEastScale c3_laws_FnExactEastScale
  rw [(east_eq _ _ _ _ _ _).1, (east_eq _ _ _ _ _ _).2.1, (east_eq _ _ _ _ _ _).2.2, sameFloat_refl, bne_self_eq_false]
  exact ⟨rfl, rfl⟩
theorem law_NorthScale (k : Int) (a b f c d : Nat) : r_laws_FnExactNorthScale R k a b f c d = true ∧ p_laws_FnExactNorthScale R k a b f c d = true := by
  unfold r_laws_FnExactNorthScale p_laws_FnExactNorthScale c2_laws_FnExactNorthScale c3_laws_FnExactNorthScale
  rw [(north_scale_eq _ _ _ _ _ _).1, (north_scale_eq _ _ _ _ _ _).2.1, (north_scale_eq _ _ _ _ _ _).2.2, sameFloat_refl, bne_self_eq_false]
  exact ⟨rfl, rfl⟩

/-! ### products -/
theorem neg_mag32 {a : Nat} {s : Bool} {m : Nat} {e : Int} (hr : FloatKind.f32.format.read a = .number s m e) : ∃ s', FloatKind.f32.format.read (R.neg .f32 a) = .number s' m e := by
  have hn : isNan .f32 a = false := nm_not_nan ⟨_, _, _, hr⟩
  have h1 : isNan .f32 (Op.negFloat .f32 a) = false := by rw [isNan_neg, hn]
  have h2 : R.neg .f32 a = a ^^^ 2 ^ 31 := by
    show fneg .f32 a = _
    unfold fneg
    rw [cn_of_not h1]; rfl
  rw [h2]
  have ef : FloatKind.f32.format = ⟨8, 23⟩ := rfl
  rw [ef] at hr ⊢
  unfold Format.read at hr ⊢
  have eS : Format.signWeight ⟨8, 23⟩ = 2 ^ 31 := by decide
  simp only [eS, xor_pow_mod] at hr ⊢
  refine ⟨(a ^^^ 2 ^ 31) / 2 ^ 31 % 2 == 1, ?_⟩
  · split at hr
    · rename_i hc; rw [if_pos hc]; cases hr; rfl
    · rename_i hc; rw [if_neg hc]
      split at hr
      · rename_i hc; rw [if_pos hc]; cases hr; rfl
      · split at hr <;> cases hr
theorem bk_neg32 {a : Nat} {E : Int} (h : Bk .f32 a E) : Bk .f32 (R.neg .f32 a) E := by
  obtain ⟨⟨s, m, e, hr⟩, h1, h2⟩ := h
  obtain ⟨s', hr'⟩ := neg_mag32 hr
  have hg := mg_nonneg m e
  unfold fv at h1 h2
  rw [hr] at h1 h2
  refine ⟨⟨_, _, _, hr'⟩, ?_, ?_⟩ <;> unfold fv <;> rw [hr'] <;> cases s <;> cases s' <;> simp only [vd_true, vd_false] at * <;> grind

theorem mul_gen (M : FOps) (a b c d : Nat) : p_impl_MulComplex M a b c d = p_spec_l01Mul M a b c d ∧
    r_impl_MulComplex M a b c d = (M.narOk (M.bin .sub .f64 (M.bin .mul .f64 (M.wid a) (M.wid c)) (M.bin .mul .f64 (M.wid b) (M.wid d))) && (M.narOk (M.bin .add .f64 (M.bin .mul .f64 (M.wid a) (M.wid d)) (M.bin .mul .f64 (M.wid b) (M.wid c))) && true)) ∧
    r_spec_l01Mul M a b c d = (((M.narOk (M.bin .sub .f64 (M.bin .mul .f64 (M.wid a) (M.wid c)) (M.bin .mul .f64 (M.wid b) (M.wid d))) && true) && ((M.narOk (M.bin .add .f64 (M.bin .mul .f64 (M.wid a) (M.wid d)) (M.bin .mul .f64 (M.wid b) (M.wid c))) && true) && true)) && true) ∧
    (p_spec_l01Mul M a b c d).1 = M.nar (M.bin .sub .f64 (M.bin .mul .f64 (M.wid a) (M.wid c)) (M.bin .mul .f64 (M.wid b) (M.wid d))) ∧
    (p_spec_l01Mul M a b c d).2 = M.nar (M.bin .add .f64 (M.bin .mul .f64 (M.wid a) (M.wid d)) (M.bin .mul .f64 (M.wid b) (M.wid c))) := ⟨rfl, rfl, rfl, rfl, rfl⟩
theorem mul_same (a b c d : Nat) : p_impl_MulComplex R a b c d = p_spec_l01Mul R a b c d := (mul_gen R a b c d).1
theorem mul_ok {a b c d : Nat} {E : Int} (ha : Bk .f32 a E) (hb : Bk .f32 b E) (hc : Bk .f32 c E) (hd : Bk .f32 d E) (h0 : 0 ≤ E) (h1 : E ≤ 60) :
    r_impl_MulComplex R a b c d = true ∧ r_spec_l01Mul R a b c d = true ∧ Bk .f32 (p_spec_l01Mul R a b c d).1 (E + E + 1) ∧ Bk .f32 (p_spec_l01Mul R a b c d).2 (E + E + 1) := by
  have wa := bk_wid ha; have wb := bk_wid hb; have wc := bk_wid hc; have wd := bk_wid hd
  have re := bd_sub (bd_mul wa wc (by omega) (by omega)) (bd_mul wb wd (by omega) (by omega)) (by omega) (by omega)
  have im := bd_add (bd_mul wa wd (by omega) (by omega)) (bd_mul wb wc (by omega) (by omega)) (by omega) (by omega)
  have k1 := bd_narOk re (by omega)
  have k2 := bd_narOk im (by omega)
  obtain ⟨_, e1, e2, e3, e4⟩ := mul_gen R a b c d
  exact ⟨by rw [e1, k1, k2]; rfl, by rw [e2, k1, k2]; rfl, by rw [e3]; exact bk_nar re (by omega) (by omega), by rw [e4]; exact bk_nar im (by omega) (by omega)⟩

theorem angleOf_same (x y : Nat) : p_impl_AngleOf R x y = p_spec_AngleOf R x y := ang_eq y x
theorem angleOf_ok (x y : Nat) : r_spec_AngleOf R x y = true := rr_spec_l01Angle y x
theorem cfin_yes {x y : Nat} (hx : Nm .f32 x) (hy : Nm .f32 y) : p_spec_l01CFinite R x y = true := by
  unfold p_spec_l01CFinite; rw [fin_spec, fin_spec, decide_eq_true hx, decide_eq_true hy]; rfl

theorem cross_angle_eq (k : Int) (a b f c d : Nat) : p_impl_CrossAngle R k a b f c d = p_spec_CrossAngle R k a b f c d ∧ r_impl_CrossAngle R k a b f c d = true ∧ r_spec_CrossAngle R k a b f c d = true := by
  have e1 : p_impl_CrossAngle R k a b f c d = c3_impl_CrossAngle R k a b f c d := rfl
  rw [e1]
  unfold c3_impl_CrossAngle c2_impl_CrossAngle c1_impl_CrossAngle p_spec_CrossAngle c3_spec_CrossAngle c2_spec_CrossAngle c1_spec_CrossAngle r_impl_CrossAngle r_spec_CrossAngle c2_spec_CrossAngle c1_impl_CrossAngle c1_spec_CrossAngle c0_impl_CrossAngle c0_spec_CrossAngle p_impl_ConjugateOf p_spec_l01Conj
  rw [(steps_ok _ _ _ _ _ _).1, (steps_ok _ _ _ _ _ _).2]
  rcases steps_bk k a b f c d with ⟨h1, h2⟩ | ⟨u0, u1, v0, v1, h1, h2, b1, b2, b3, b4⟩
  · have z := mul_ok (bk_zero32 0) (bk_zero32 0) (bk_zero32 0) (bk_neg32 (bk_zero32 0)) (by decide) (by decide)
    rw [h1, h2]
    simp only [Bool.not_false, cond_true, finite_no, z.1, Bool.and_self, and_self]
  · obtain ⟨l1, l2, l3, l4⟩ := mul_ok b3 b4 b1 (bk_neg32 b2) (by decide) (by decide)
    rw [h1, h2]
    simp only [Bool.not_true, cond_false, number_eq, mul_same, angleOf_same, angleOf_ok, cfin_yes l3.1 l4.1, l1, l2, Bool.and_self, and_self]

theorem law_CrossAngle (k : Int) (a b f c d : Nat) : r_laws_FnExactCrossAngle R k a b f c d = true ∧ p_laws_FnExactCrossAngle R k a b f c d = true := by
  unfold r_laws_FnExactCrossAngle p_laws_FnExactCrossAngle c2_laws_FnExactCrossAngle c3_laws_FnExactCrossAngle
  rw [(cross_angle_eq _ _ _ _ _ _).1, (cross_angle_eq _ _ _ _ _ _).2.1, (cross_angle_eq _ _ _ _ _ _).2.2, sameFloat_refl, bne_self_eq_false]
  exact ⟨rfl, rfl⟩

/-! ### axes -/
theorem fin_of {x : Nat} (h : Nm .f32 x) : p_spec_l01Finite R x = true := by rw [fin_spec]; exact decide_eq_true h
theorem nm_size {x : Nat} (h : Nm .f32 x) : Nm .f32 (p_spec_l02Size R x) := by
  unfold p_spec_l02Size
  cases R.cmp .leq .f32 x 0
  · exact h
  · rw [cond_true]
    rcases nm_dec .f32 (R.bin .sub .f32 0 x) with n | n
    · exact n
    · exfalso
      obtain ⟨s, m, e, hr⟩ := h
      obtain ⟨b1, b2, b3⟩ := read32_e x hr
      have hg := mg_nonneg m e
      have r0 : FloatKind.f32.format.read 0 = .number false 0 (-149) := by decide
      obtain ⟨s', m', e', q1, q2⟩ := sum_num false 0 (-149) (!s) m e
      have hb : R.bin .sub .f32 0 x = FloatKind.f32.format.nearest s' m' e' := by
        show (FloatKind.f32.format.sub 0 x).getD (nanOf .f32) = _
        unfold Format.sub
        rw [r0, hr]
        show (((Datum.number false 0 (-149)).sum (.number (!s) m e)).map FloatKind.f32.format.write).getD _ = _
        rw [q1]; rfl
      have hv : mg m' e' = mg m e := by
        have hg' := mg_nonneg m' e'
        rw [vd_false, mg_zero] at q2
        cases s <;> cases s' <;> simp only [Bool.not_true, Bool.not_false, vd_true, vd_false] at q2 <;> grind
      obtain ⟨m3, e3, r3, v3⟩ := nearest_exact FloatKind.f32.format (exp3 .f32) s' m' e' m e (by rw [B32]; omega) (by rw [least_eq]; exact b2) b3 hv
      rw [← hb] at r3
      exact n ⟨_, _, _, r3⟩

theorem axes_eq (k : Int) (a b f c d : Nat) : p_impl_AxesAt R k a b f c d = p_spec_l03Axes R k a b f c d ∧ r_impl_AxesAt R k a b f c d = true ∧ r_spec_l03Axes R k a b f c d = true := by
  rcases steps_bk k a b f c d with ⟨h1, h2⟩ | ⟨u0, u1, v0, v1, h1, h2, b1, b2, b3, b4⟩
  · unfold p_impl_AxesAt p_spec_l03Axes r_impl_AxesAt r_spec_l03Axes c0_impl_AxesAt c0_spec_l03Axes
    rw [(steps_ok _ _ _ _ _ _).1, (steps_ok _ _ _ _ _ _).2, h1, h2]
    exact ⟨rfl, rfl, rfl⟩
  · have one := bk_mono bk_one32 (show (0 : Int) ≤ 35 by decide)
    obtain ⟨l1, l2, l3, l4⟩ := mul_ok b3 b4 (bk_zero32 35) one (by decide) (by decide)
    have i0 : c0_impl_AxesAt R k a b f c d = (u0, u1, v0, v1, true) := h1
    have s0 : c0_spec_l03Axes R k a b f c d = (u0, u1, v0, v1, true) := h2
    have i1 : c1_impl_AxesAt R k a b f c d = p_spec_l01Mul R v0 v1 0 1065353216 := by unfold c1_impl_AxesAt; rw [i0, mul_same]
    have s1 : c1_spec_l03Axes R k a b f c d = p_spec_l01Mul R v0 v1 0 1065353216 := by unfold c1_spec_l03Axes; rw [s0]
    generalize hw : p_spec_l01Mul R v0 v1 0 1065353216 = w at *
    have i3 : c3_impl_AxesAt R k a b f c d = p_spec_l01Scale R (R.bin .sub .f32 u0 w.1) (R.bin .sub .f32 u1 w.2) 1056964608 := by unfold c3_impl_AxesAt c2_impl_AxesAt; rw [i0, i1]; rfl
    have s2 : c2_spec_l03Axes R k a b f c d = p_spec_l01Scale R (R.bin .sub .f32 u0 w.1) (R.bin .sub .f32 u1 w.2) 1056964608 := by unfold c2_spec_l03Axes; rw [s0, s1]
    have i5 : c5_impl_AxesAt R k a b f c d = p_spec_l01Scale R (R.bin .add .f32 u0 w.1) (R.bin .add .f32 u1 w.2) 1056964608 := by unfold c5_impl_AxesAt c4_impl_AxesAt; rw [i0, i1]; rfl
    have s3 : c3_spec_l03Axes R k a b f c d = p_spec_l01Scale R (R.bin .add .f32 u0 w.1) (R.bin .add .f32 u1 w.2) 1056964608 := by unfold c3_spec_l03Axes; rw [s0, s1]
    have m35 : (35 : Int) ≤ 35 + 35 + 1 := by decide
    have p1 := bk_mul (bk_sub (bk_mono b1 m35) l3 (by decide) (by decide)) half32 (by decide) (by decide)
    have p2' := bk_mul (bk_sub (bk_mono b2 m35) l4 (by decide) (by decide)) half32 (by decide) (by decide)
    have q1 := bk_mul (bk_add (bk_mono b1 m35) l3 (by decide) (by decide)) half32 (by decide) (by decide)
    have q2 := bk_mul (bk_add (bk_mono b2 m35) l4 (by decide) (by decide)) half32 (by decide) (by decide)
    obtain ⟨g1, g2, g3⟩ := long_ok p1 p2' (by decide) (by decide)
    obtain ⟨o1, o2, o3⟩ := long_ok q1 q2 (by decide) (by decide)
    rw [scale_eq] at i3 s2 i5 s3
    generalize R.bin .mul .f32 (R.bin .sub .f32 u0 w.1) 1056964608 = x0 at *
    generalize R.bin .mul .f32 (R.bin .sub .f32 u1 w.2) 1056964608 = x1 at *
    generalize R.bin .mul .f32 (R.bin .add .f32 u0 w.1) 1056964608 = y0 at *
    generalize R.bin .mul .f32 (R.bin .add .f32 u1 w.2) 1056964608 = y1 at *
    have hdiff := bk_sub g3 o3 (by decide) (by decide)
    have n9 := nm_size hdiff.1
    unfold p_impl_AxesAt p_spec_l03Axes r_impl_AxesAt r_spec_l03Axes c10_impl_AxesAt c9_impl_AxesAt c8_impl_AxesAt c7_impl_AxesAt c6_impl_AxesAt c7_spec_l03Axes c6_spec_l03Axes c5_spec_l03Axes c4_spec_l03Axes
    rw [(steps_ok _ _ _ _ _ _).1, (steps_ok _ _ _ _ _ _).2, i0, s0, i3, s2, i5, s3]
    simp only [long_same, angleOf_same, angleOf_ok, fin_same, half_eq, size_eq (cw_bin _ _ _), fin_of n9, g1, g2, o1, o2, l1, l2, Bool.not_true, Bool.and_true, Bool.true_and, cond_false]
    generalize (!(R.cmp .eql .f32 x0 0 && R.cmp .eql .f32 x1 0)) = t1
    generalize (!(R.cmp .eql .f32 y0 0 && R.cmp .eql .f32 y1 0)) = t2
    generalize R.bin .add .f32 (p_spec_l01Long R x0 x1) (p_spec_l01Long R y0 y1) = A
    generalize R.bin .mul .f32 1056964608 (R.bin .add .f32 (p_spec_AngleOf R x0 x1) (p_spec_AngleOf R y0 y1)) = B
    generalize p_spec_l02Size R (R.bin .sub .f32 (p_spec_l01Long R x0 x1) (p_spec_l01Long R y0 y1)) = C
    generalize p_spec_l01Finite R A = f1
    generalize p_spec_l01Finite R B = f2
    generalize p_spec_l01Finite R 0 = f0
    refine ⟨?_, trivial, ?_⟩
    · cases t1 <;> cases t2 <;> cases f1 <;> cases f2 <;> cases f0 <;> rfl
    · cases t1 <;> cases t2 <;> rfl

theorem eta4 (x : Nat × Nat × Nat × Bool) : (x.fst, x.snd.fst, x.snd.snd.fst, x.snd.snd.snd) = x := rfl
theorem law_AxesAt (k : Int) (a b f c d : Nat) : r_laws_FnExactAxesAt R k a b f c d = true ∧ p_laws_FnExactAxesAt R k a b f c d = true := by
  unfold r_laws_FnExactAxesAt p_laws_FnExactAxesAt c2_laws_FnExactAxesAt c3_laws_FnExactAxesAt r_spec_AxesAt p_spec_AxesAt c0_spec_AxesAt
  rw [(axes_eq _ _ _ _ _ _).1, (axes_eq _ _ _ _ _ _).2.1, (axes_eq _ _ _ _ _ _).2.2]
  simp only [sameFloat_refl, bne_self_eq_false, Bool.not_true, cond_false, Bool.and_self, and_self]

/-! ### the ratio of lengths -/
theorem ratio_form (M : FOps) (k : Int) (m n f a b c d : Nat) : p_impl_LongRatio M k m n f a b c d = bif !(c0_impl_LongRatio M k m n f a b c d).snd.snd then (0, false) else (bif !(c1_impl_LongRatio M k m n f a b c d).snd.snd then (0, false) else c4_impl_LongRatio M k m n f a b c d) := rfl
theorem ratio_eq (k : Int) (m n f a b c d : Nat) : p_impl_LongRatio R k m n f a b c d = p_spec_LongRatio R k m n f a b c d ∧ r_impl_LongRatio R k m n f a b c d = true ∧ r_spec_LongRatio R k m n f a b c d = true := by
  have i0 : c0_impl_LongRatio R k m n f a b c d = p_spec_PointOf R k m n f a b := pointOf_eq k m n f a b
  have i1 : c1_impl_LongRatio R k m n f a b c d = p_spec_PointOf R k m n f c d := pointOf_eq k m n f c d
  have i3 : c3_impl_LongRatio R k m n f a b c d = c2_spec_LongRatio R k m n f a b c d := by unfold c3_impl_LongRatio c2_spec_LongRatio p_spec_l03Round; rw [apart_eq]
  have e4 := ratio_form R k m n f a b c d
  rw [e4]
  unfold c4_impl_LongRatio p_spec_LongRatio r_impl_LongRatio r_spec_LongRatio c5_spec_LongRatio c4_spec_LongRatio c3_spec_LongRatio c2_impl_LongRatio c1_spec_LongRatio c0_spec_LongRatio
  rw [(pointOf_ok _ _ _ _ _ _).1, (pointOf_ok _ _ _ _ _ _).1, point_spec_ok, point_spec_ok, i0, i1, i3]
  generalize c2_spec_LongRatio R k m n f a b c d = by'
  cases hm : p_spec_l03Is R k m n f
  · rw [pointOf_no a b hm]
    simp only [Bool.not_false, cond_true, Bool.and_self, and_self]
  cases h1 : p_spec_l02Is R a b
  · rw [pointOf_nop k m n f h1]
    simp only [Bool.not_false, Bool.not_true, cond_false, cond_true, Bool.and_self, and_self]
  rw [pointOf_yes hm h1]
  cases h2 : p_spec_l02Is R c d
  · rw [pointOf_nop k m n f h2]
    simp only [Bool.not_false, Bool.not_true, cond_false, cond_true, Bool.and_self]
    cases (p_spec_l03Point R k m n f a b).snd.snd <;> simp only [Bool.not_false, Bool.not_true, cond_false, cond_true, Bool.and_self, and_self]
  rw [pointOf_yes hm h2]
  simp only [Bool.not_true, cond_false]
  cases s1 : (p_spec_l03Point R k m n f a b).snd.snd
  · simp only [Bool.not_false, cond_true, Bool.and_self, and_self]
  cases s2 : (p_spec_l03Point R k m n f c d).snd.snd
  · simp only [Bool.not_false, Bool.not_true, cond_true, cond_false, Bool.and_self, and_self]
  have q1 : p_spec_l03Point R k m n f a b = ((p_spec_l03Point R k m n f a b).fst, (p_spec_l03Point R k m n f a b).snd.fst, true) := by rw [← s1]
  have q2 : p_spec_l03Point R k m n f c d = ((p_spec_l03Point R k m n f c d).fst, (p_spec_l03Point R k m n f c d).snd.fst, true) := by rw [← s2]
  rw [← place_eq] at h1 h2
  obtain ⟨b1, b2⟩ := point_bk hm h1 q1
  obtain ⟨b3, b4⟩ := point_bk hm h2 q2
  obtain ⟨l1, l2, _⟩ := long_ok (bk_sub b1 b3 (by decide) (by decide)) (bk_sub b2 b4 (by decide) (by decide)) (by decide) (by decide)
  unfold p_impl_less
  simp only [long_same, l1, l2, Bool.not_true, cond_false, Bool.and_self, true_and]
  cases R.cmp .gtr .f32 by' 0
  · simp only [finite_no, Bool.not_false, cond_true, Bool.and_self, and_self]
  · simp only [number_eq, Bool.not_true, cond_false, Bool.and_self, and_self]

theorem law_LongRatio (k : Int) (m n f a b c d : Nat) : r_laws_FnExactLongRatio R k m n f a b c d = true ∧ p_laws_FnExactLongRatio R k m n f a b c d = true := by
  unfold r_laws_FnExactLongRatio p_laws_FnExactLongRatio c3_laws_FnExactLongRatio c4_laws_FnExactLongRatio
  rw [(ratio_eq _ _ _ _ _ _ _ _).1, (ratio_eq _ _ _ _ _ _ _ _).2.1, (ratio_eq _ _ _ _ _ _ _ _).2.2, sameFloat_refl, bne_self_eq_false]
  exact ⟨rfl, rfl⟩
end Go.Dv
