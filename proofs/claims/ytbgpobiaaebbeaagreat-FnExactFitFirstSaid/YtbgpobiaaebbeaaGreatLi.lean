/- Scales, ratios, angles between steps and axes: both texts are the same. -/
import Derived.Test.YtbgpobiaaebbeaaGreatLc
import Derived.Test.YtbgpobiaaebbeaaGreatWr
set_option linter.unusedSimpArgs false
namespace Go.Dv
open Go.Cv
open Ieee

theorem long_gen (M : FOps) (x y : Nat) : p_impl_LongOf M x y = p_spec_l01Long M x y ∧ r_impl_LongOf M x y = (M.narOk (M.sqrt (p_spec_l01PowerWide M x y)) && true) ∧ r_spec_l01Long M x y = ((M.narOk (M.sqrt (p_spec_l01PowerWide M x y)) && true) && true) := ⟨rfl, rfl, rfl⟩
theorem long_same (x y : Nat) : p_impl_LongOf R x y = p_spec_l01Long R x y := (long_gen R x y).1
theorem long_root {x y : Nat} {E : Int} (hx : Bk .f32 x E) (hy : Bk .f32 y E) (h0 : 0 ≤ E) (h1 : E ≤ 100) : Bd (R.sqrt (p_spec_l01PowerWide R x y)) (E + 1) := by
  have wx := bk_wid hx
  have wy := bk_wid hy
  have mx := bd_mul wx wx (by omega) (by omega)
  have my := bd_mul wy wy (by omega) (by omega)
  have sq : ∀ q : Rat, 0 ≤ q * q := fun q => by
    by_cases h : 0 ≤ q
    · exact Rat.mul_nonneg h h
    · have : q * q = (-q) * (-q) := by grind
      rw [this]; exact Rat.mul_nonneg (by grind) (by grind)
  have px := (rd_mul wx.1 wx.1).pos (sq _) mx.1
  have py := (rd_mul wy.1 wy.1).pos (sq _) my.1
  have s := bd_add mx my (by omega) (by omega)
  have ps := (rd_add mx.1 my.1).pos (by grind) s.1
  have hle : fv .f64 (R.bin .add .f64 (R.bin .mul .f64 (R.wid x) (R.wid x)) (R.bin .mul .f64 (R.wid y) (R.wid y))) ≤ p2 (2 * (E + 1)) := Rat.le_trans s.2.1 (p2_mono (by omega))
  obtain ⟨q1, q2, q3⟩ := sqrt_nm s.1 ps hle (by omega) (by omega)
  exact ⟨q1, q3, by have := p2_nonneg (E + 1); show -(fv .f64 (R.sqrt (R.bin .add .f64 (R.bin .mul .f64 (R.wid x) (R.wid x)) (R.bin .mul .f64 (R.wid y) (R.wid y))))) ≤ _; grind⟩
theorem long_ok {x y : Nat} {E : Int} (hx : Bk .f32 x E) (hy : Bk .f32 y E) (h0 : 0 ≤ E) (h1 : E ≤ 100) : r_impl_LongOf R x y = true ∧ r_spec_l01Long R x y = true ∧ Bk .f32 (p_spec_l01Long R x y) (E + 1) := by
  have hb := long_root hx hy h0 h1
  have hk := bd_narOk hb (by omega)
  have e1 := (long_gen R x y).2.1
  have e2 := (long_gen R x y).2.2
  exact ⟨by rw [e1, hk]; rfl, by rw [e2, hk]; rfl, bk_nar hb (by omega) (by omega)⟩
/-! ### scales -/
/-! ### products -/
theorem mul_gen (M : FOps) (a b c d : Nat) : p_impl_MulComplex M a b c d = p_spec_l01Mul M a b c d ∧
    r_impl_MulComplex M a b c d = (M.narOk (M.bin .sub .f64 (M.bin .mul .f64 (M.wid a) (M.wid c)) (M.bin .mul .f64 (M.wid b) (M.wid d))) && (M.narOk (M.bin .add .f64 (M.bin .mul .f64 (M.wid a) (M.wid d)) (M.bin .mul .f64 (M.wid b) (M.wid c))) && true)) ∧
    r_spec_l01Mul M a b c d = (((M.narOk (M.bin .sub .f64 (M.bin .mul .f64 (M.wid a) (M.wid c)) (M.bin .mul .f64 (M.wid b) (M.wid d))) && true) && ((M.narOk (M.bin .add .f64 (M.bin .mul .f64 (M.wid a) (M.wid d)) (M.bin .mul .f64 (M.wid b) (M.wid c))) && true) && true)) && true) ∧
    (p_spec_l01Mul M a b c d).1 = M.nar (M.bin .sub .f64 (M.bin .mul .f64 (M.wid a) (M.wid c)) (M.bin .mul .f64 (M.wid b) (M.wid d))) ∧
    (p_spec_l01Mul M a b c d).2 = M.nar (M.bin .add .f64 (M.bin .mul .f64 (M.wid a) (M.wid d)) (M.bin .mul .f64 (M.wid b) (M.wid c))) := ⟨rfl, rfl, rfl, rfl, rfl⟩
theorem mul_same (a b c d : Nat) : p_impl_MulComplex R a b c d = p_spec_l01Mul R a b c d := (mul_gen R a b c d).1
theorem mul_ok {a b c d : Nat} {E : Int} (ha : Bk .f32 a E) (hb : Bk .f32 b E) (hc : Bk .f32 c E) (hd : Bk .f32 d E) (h0 : 0 ≤ E) (h1 : E ≤ 60) :
    r_impl_MulComplex R a b c d = true ∧ r_spec_l01Mul R a b c d = true ∧ Bk .f32 (p_spec_l01Mul R a b c d).1 (E + E + 1) ∧ Bk .f32 (p_spec_l01Mul R a b c d).2 (E + E + 1) := by
  have wa := bk_wid ha; have wb := bk_wid hb; have wc := bk_wid hc; have wd := bk_wid hd
  have re := bd_sub (bd_mul wa wc (by omega) (by omega)) (bd_mul wb wd (by omega) (by omega)) (by omega) (by omega)
  have im := bd_add (bd_mul wa wd (by omega) (by omega)) (bd_mul wb wc (by omega) (by omega)) (by omega) (by omega)
  have k1 := bd_narOk re (by omega)
  have k2 := bd_narOk im (by omega)
  obtain ⟨_, e1, e2, e3, e4⟩ := mul_gen R a b c d
  exact ⟨by rw [e1, k1, k2]; rfl, by rw [e2, k1, k2]; rfl, by rw [e3]; exact bk_nar re (by omega) (by omega), by rw [e4]; exact bk_nar im (by omega) (by omega)⟩

theorem angleOf_same (x y : Nat) : p_impl_AngleOf R x y = p_spec_AngleOf R x y := ang_eq y x
theorem angleOf_ok (x y : Nat) : r_spec_AngleOf R x y = true := rr_spec_l01Angle y x
/-! ### axes -/
theorem fin_of {x : Nat} (h : Nm .f32 x) : p_spec_l01Finite R x = true := by rw [fin_spec]; exact decide_eq_true h
theorem nm_size {x : Nat} (h : Nm .f32 x) : Nm .f32 (p_spec_l02Size R x) := by
  unfold p_spec_l02Size
  cases R.cmp .leq .f32 x 0
  · exact h
  · rw [cond_true]
    rcases nm_dec .f32 (R.bin .sub .f32 0 x) with n | n
    · exact n
    · exfalso
      obtain ⟨s, m, e, hr⟩ := h
      obtain ⟨b1, b2, b3⟩ := read32_e x hr
      have hg := mg_nonneg m e
      have r0 : FloatKind.f32.format.read 0 = .number false 0 (-149) := by decide
      obtain ⟨s', m', e', q1, q2⟩ := sum_num false 0 (-149) (!s) m e
      have hb : R.bin .sub .f32 0 x = FloatKind.f32.format.nearest s' m' e' := by
        show (FloatKind.f32.format.sub 0 x).getD (nanOf .f32) = _
        unfold Format.sub
        rw [r0, hr]
        show (((Datum.number false 0 (-149)).sum (.number (!s) m e)).map FloatKind.f32.format.write).getD _ = _
        rw [q1]; rfl
      have hv : mg m' e' = mg m e := by
        have hg' := mg_nonneg m' e'
        rw [vd_false, mg_zero] at q2
        cases s <;> cases s' <;> simp only [Bool.not_true, Bool.not_false, vd_true, vd_false] at q2 <;> grind
      obtain ⟨m3, e3, r3, v3⟩ := nearest_exact FloatKind.f32.format (exp3 .f32) s' m' e' m e (by rw [B32]; omega) (by rw [least_eq]; exact b2) b3 hv
      rw [← hb] at r3
      exact n ⟨_, _, _, r3⟩

theorem axes_eq (k : Int) (a b f c d : Nat) : p_impl_AxesAt R k a b f c d = p_spec_l03Axes R k a b f c d ∧ r_impl_AxesAt R k a b f c d = true ∧ r_spec_l03Axes R k a b f c d = true := by
  rcases steps_bk k a b f c d with ⟨h1, h2⟩ | ⟨u0, u1, v0, v1, h1, h2, b1, b2, b3, b4⟩
  · unfold p_impl_AxesAt p_spec_l03Axes r_impl_AxesAt r_spec_l03Axes c0_impl_AxesAt c0_spec_l03Axes
    rw [(steps_ok _ _ _ _ _ _).1, (steps_ok _ _ _ _ _ _).2, h1, h2]
    exact ⟨rfl, rfl, rfl⟩
  · have one := bk_mono bk_one32 (show (0 : Int) ≤ 35 by decide)
    obtain ⟨l1, l2, l3, l4⟩ := mul_ok b3 b4 (bk_zero32 35) one (by decide) (by decide)
    have i0 : c0_impl_AxesAt R k a b f c d = (u0, u1, v0, v1, true) := h1
    have s0 : c0_spec_l03Axes R k a b f c d = (u0, u1, v0, v1, true) := h2
    have i1 : c1_impl_AxesAt R k a b f c d = p_spec_l01Mul R v0 v1 0 1065353216 := by unfold c1_impl_AxesAt; rw [i0, mul_same]
    have s1 : c1_spec_l03Axes R k a b f c d = p_spec_l01Mul R v0 v1 0 1065353216 := by unfold c1_spec_l03Axes; rw [s0]
    generalize hw : p_spec_l01Mul R v0 v1 0 1065353216 = w at *
    have i3 : c3_impl_AxesAt R k a b f c d = p_spec_l01Scale R (R.bin .sub .f32 u0 w.1) (R.bin .sub .f32 u1 w.2) 1056964608 := by unfold c3_impl_AxesAt c2_impl_AxesAt; rw [i0, i1]; rfl
    have s2 : c2_spec_l03Axes R k a b f c d = p_spec_l01Scale R (R.bin .sub .f32 u0 w.1) (R.bin .sub .f32 u1 w.2) 1056964608 := by unfold c2_spec_l03Axes; rw [s0, s1]
    have i5 : c5_impl_AxesAt R k a b f c d = p_spec_l01Scale R (R.bin .add .f32 u0 w.1) (R.bin .add .f32 u1 w.2) 1056964608 := by unfold c5_impl_AxesAt c4_impl_AxesAt; rw [i0, i1]; rfl
    have s3 : c3_spec_l03Axes R k a b f c d = p_spec_l01Scale R (R.bin .add .f32 u0 w.1) (R.bin .add .f32 u1 w.2) 1056964608 := by unfold c3_spec_l03Axes; rw [s0, s1]
    have m35 : (35 : Int) ≤ 35 + 35 + 1 := by decide
    have p1 := bk_mul (bk_sub (bk_mono b1 m35) l3 (by decide) (by decide)) half32 (by decide) (by decide)
    have p2' := bk_mul (bk_sub (bk_mono b2 m35) l4 (by decide) (by decide)) half32 (by decide) (by decide)
    have q1 := bk_mul (bk_add (bk_mono b1 m35) l3 (by decide) (by decide)) half32 (by decide) (by decide)
    have q2 := bk_mul (bk_add (bk_mono b2 m35) l4 (by decide) (by decide)) half32 (by decide) (by decide)
    obtain ⟨g1, g2, g3⟩ := long_ok p1 p2' (by decide) (by decide)
    obtain ⟨o1, o2, o3⟩ := long_ok q1 q2 (by decide) (by decide)
    rw [scale_eq] at i3 s2 i5 s3
    generalize R.bin .mul .f32 (R.bin .sub .f32 u0 w.1) 1056964608 = x0 at *
    generalize R.bin .mul .f32 (R.bin .sub .f32 u1 w.2) 1056964608 = x1 at *
    generalize R.bin .mul .f32 (R.bin .add .f32 u0 w.1) 1056964608 = y0 at *
    generalize R.bin .mul .f32 (R.bin .add .f32 u1 w.2) 1056964608 = y1 at *
    have hdiff := bk_sub g3 o3 (by decide) (by decide)
    have n9 := nm_size hdiff.1
    unfold p_impl_AxesAt p_spec_l03Axes r_impl_AxesAt r_spec_l03Axes c10_impl_AxesAt c9_impl_AxesAt c8_impl_AxesAt c7_impl_AxesAt c6_impl_AxesAt c7_spec_l03Axes c6_spec_l03Axes c5_spec_l03Axes c4_spec_l03Axes
    rw [(steps_ok _ _ _ _ _ _).1, (steps_ok _ _ _ _ _ _).2, i0, s0, i3, s2, i5, s3]
    simp only [long_same, angleOf_same, angleOf_ok, fin_same, half_eq, size_eq (cw_bin _ _ _), fin_of n9, g1, g2, o1, o2, l1, l2, Bool.not_true, Bool.and_true, Bool.true_and, cond_false]
    generalize (!(R.cmp .eql .f32 x0 0 && R.cmp .eql .f32 x1 0)) = t1
    generalize (!(R.cmp .eql .f32 y0 0 && R.cmp .eql .f32 y1 0)) = t2
    generalize R.bin .add .f32 (p_spec_l01Long R x0 x1) (p_spec_l01Long R y0 y1) = A
    generalize R.bin .mul .f32 1056964608 (R.bin .add .f32 (p_spec_AngleOf R x0 x1) (p_spec_AngleOf R y0 y1)) = B
    generalize p_spec_l02Size R (R.bin .sub .f32 (p_spec_l01Long R x0 x1) (p_spec_l01Long R y0 y1)) = C
    generalize p_spec_l01Finite R A = f1
    generalize p_spec_l01Finite R B = f2
    generalize p_spec_l01Finite R 0 = f0
    refine ⟨?_, trivial, ?_⟩
    · cases t1 <;> cases t2 <;> cases f1 <;> cases f2 <;> cases f0 <;> rfl
    · cases t1 <;> cases t2 <;> rfl

/-! ### the ratio of lengths -/
end Go.Dv
