/- LogNumber of both texts, for every argument. -/
import Derived.Test.YtbgpobiaaebbeaaGreatLk
import Derived.Test.YtbgpobiaaebbeaaGreatLp
import Derived.Test.YtbgpobiaaebbeaaGreatLw
import Derived.Test.YtbgpobiaaebbeaaGreatGz
namespace Go.Dv
open Go.Cv
open Ieee

theorem lw_nan {w : Nat} (h : R.cmp .neq .f64 w w = true) : p_spec_l01LogWide R w = p_math_NaN R ∧ r_spec_l01LogWide R w = true := by
  unfold p_spec_l01LogWide r_spec_l01LogWide
  rw [h, cond_true, cond_true]
  exact ⟨rfl, rfl⟩
theorem lw_neg {w : Nat} (h : R.cmp .neq .f64 w w = false) (h0 : R.cmp .lss .f64 w 0 = true) : p_spec_l01LogWide R w = p_math_NaN R ∧ r_spec_l01LogWide R w = true := by
  unfold p_spec_l01LogWide r_spec_l01LogWide
  rw [h, h0, cond_false, cond_false, cond_true, cond_true]
  exact ⟨rfl, rfl⟩
theorem lw_zero {w : Nat} (h : R.cmp .neq .f64 w w = false) (h0 : R.cmp .lss .f64 w 0 = false) (h1 : R.cmp .eql .f64 w 0 = true) : p_spec_l01LogWide R w = p_math_Inf R (Int.negSucc 0) ∧ r_spec_l01LogWide R w = true := by
  unfold p_spec_l01LogWide r_spec_l01LogWide
  rw [h, h0, h1, cond_false, cond_false, cond_true, cond_false, cond_false, cond_true]
  exact ⟨rfl, rfl⟩
theorem lw_inf {w : Nat} (h : R.cmp .neq .f64 w w = false) (h0 : R.cmp .lss .f64 w 0 = false) (h1 : R.cmp .eql .f64 w 0 = false) (h2 : p_math_IsInf R w 1 = true) : p_spec_l01LogWide R w = w ∧ r_spec_l01LogWide R w = true := by
  unfold p_spec_l01LogWide r_spec_l01LogWide
  rw [h, h0, h1, h2, cond_false, cond_false, cond_false, cond_true, cond_false, cond_false, cond_false, cond_true]
  exact ⟨rfl, rfl⟩

/-- both texts come to an end and give the same datum -/
def LogGood (a : Nat) : Prop := r_impl_LogNumber R a = true ∧ r_spec_l01Log R a = true ∧ FloatKind.f32.format.read (p_impl_LogNumber R a) = FloatKind.f32.format.read (p_spec_l01Log R a)

theorem spec_log_of {a v : Nat} (h : p_spec_l01LogWide R (R.wid a) = v ∧ r_spec_l01LogWide R (R.wid a) = true) (hn : R.narOk v = true) : r_spec_l01Log R a = true ∧ p_spec_l01Log R a = R.nar v := by
  unfold r_spec_l01Log p_spec_l01Log c1_spec_l01Log c0_spec_l01Log p_spec_l01Narrow r_spec_l01Narrow
  rw [h.1, h.2, hn]
  exact ⟨rfl, rfl⟩

theorem narOk_ninf : R.narOk (p_math_Inf R (Int.negSucc 0)) = true := by decide

theorem impl_log_zero {a : Nat} (h : R.cmp .eql .f32 a 0 = true) : r_impl_LogNumber R a = true ∧ p_impl_LogNumber R a = R.nar (p_math_Inf R (Int.negSucc 0)) := by
  unfold r_impl_LogNumber p_impl_LogNumber c0_impl_LogNumber
  rw [h, cond_true, cond_true, narOk_ninf]
  exact ⟨rfl, rfl⟩
theorem impl_log_neg {a : Nat} (h : R.cmp .eql .f32 a 0 = false) (h1 : R.cmp .lss .f32 a 0 = true) : r_impl_LogNumber R a = true ∧ p_impl_LogNumber R a = R.nar (p_math_NaN R) := by
  unfold r_impl_LogNumber p_impl_LogNumber c2_impl_LogNumber c3_impl_LogNumber c1_impl_LogNumber
  rw [h, h1, cond_false, cond_true, cond_false, cond_true, nar_nan]
  exact ⟨rfl, rfl⟩
theorem impl_log_nan {a : Nat} (h : R.cmp .eql .f32 a 0 = false) (h1 : R.cmp .lss .f32 a 0 = false) (h2 : R.cmp .neq .f32 a a = true) : r_impl_LogNumber R a = true ∧ p_impl_LogNumber R a = R.nar (p_math_NaN R) := by
  unfold r_impl_LogNumber p_impl_LogNumber c2_impl_LogNumber c3_impl_LogNumber c1_impl_LogNumber
  rw [h, h1, h2, cond_false, cond_false, cond_true, cond_false, cond_false, cond_true, nar_nan]
  exact ⟨rfl, rfl⟩
theorem impl_log_inf {a : Nat} (h : R.cmp .eql .f32 a 0 = false) (h1 : R.cmp .lss .f32 a 0 = false) (h2 : R.cmp .neq .f32 a a = false) (h3 : p_impl_IsFinite R a = false) : r_impl_LogNumber R a = true ∧ p_impl_LogNumber R a = a := by
  unfold r_impl_LogNumber p_impl_LogNumber
  rw [h, h1, h2, h3, cond_false, cond_false, cond_false, Bool.not_false, cond_true, cond_false, cond_false, cond_false, cond_true]
  exact ⟨rfl, rfl⟩
theorem impl_log_fin {a : Nat} (h : R.cmp .eql .f32 a 0 = false) (h1 : R.cmp .lss .f32 a 0 = false) (h2 : R.cmp .neq .f32 a a = false) (h3 : p_impl_IsFinite R a = true) (h4 : r_impl_logarithm R a = true) (h5 : R.narOk (p_impl_logarithm R a) = true) : r_impl_LogNumber R a = true ∧ p_impl_LogNumber R a = R.nar (p_impl_logarithm R a) := by
  unfold r_impl_LogNumber p_impl_LogNumber c4_impl_LogNumber
  rw [h, h1, h2, h3, h4, h5, cond_false, cond_false, cond_false, Bool.not_true, cond_false, cond_false, cond_false, cond_false, cond_false]
  exact ⟨rfl, rfl⟩

theorem read_eq {a b : Nat} (h : a = b) : FloatKind.f32.format.read a = FloatKind.f32.format.read b := by rw [h]

theorem log_good_fin {a : Nat} (h : Nm .f32 a) : LogGood a := by
  have hw := (wid_nm h).1
  have e1 : R.cmp .neq .f64 (R.wid a) (R.wid a) = false := by rw [neq_not, eql_nm hw hw, decide_eq_true rfl]; rfl
  have e2 : R.cmp .neq .f32 a a = false := by rw [neq_not, eql_nm h h, decide_eq_true rfl]; rfl
  have z := eql0_wide h
  have l := lss0_wide h
  cases hz : R.cmp .eql .f32 a 0
  · rw [hz] at z
    cases hl : R.cmp .lss .f32 a 0
    · rw [hl] at l
      have hp : 0 < fv .f32 a := by
        rw [eql_nm h nm32_zero, fv32_zero] at hz
        rw [lss_nm h nm32_zero, fv32_zero] at hl
        have a1 := of_decide_eq_false hz
        have a2 := of_decide_eq_false hl
        grind
      obtain ⟨k1, k2, k3, k4⟩ := log_ok h hp
      have hi : p_math_IsInf R (R.wid a) 1 = false := by
        have hb := (pos_range h hp).2.2
        have hm : Nm .f64 9218868437227405311 := ⟨_, _, _, rfl⟩
        have hv : p2 130 ≤ fv .f64 9218868437227405311 := by decide +kernel
        show R.cmp .gtr .f64 (R.wid a) 9218868437227405311 = false
        rw [gtr_nm hw hm]
        exact decide_eq_false (by grind)
      have hs := log_same a e1 l z hi
      have hr : r_spec_l01LogWide R (R.wid a) = true := by
        unfold r_spec_l01LogWide
        rw [e1, l, z, hi, k2, k3]
        rfl
      have hf : p_impl_IsFinite R a = true := by rw [fin_wide]; exact decide_eq_true h
      obtain ⟨i1, i2⟩ := impl_log_fin hz hl e2 hf k1 k4
      obtain ⟨s1, s2⟩ := spec_log_of ⟨hs.symm, hr⟩ k4
      exact ⟨i1, s1, read_eq (i2.trans s2.symm)⟩
    · rw [hl] at l
      obtain ⟨i1, i2⟩ := impl_log_neg hz hl
      obtain ⟨s1, s2⟩ := spec_log_of (lw_neg e1 l) nar_nan
      exact ⟨i1, s1, read_eq (i2.trans s2.symm)⟩
  · rw [hz] at z
    have hl : R.cmp .lss .f32 a 0 = false := by
      rw [eql_nm h nm32_zero, fv32_zero] at hz
      have a1 := of_decide_eq_true hz
      rw [lss_nm h nm32_zero, fv32_zero]
      exact decide_eq_false (by grind)
    rw [hl] at l
    obtain ⟨i1, i2⟩ := impl_log_zero hz
    obtain ⟨s1, s2⟩ := spec_log_of (lw_zero e1 l z) narOk_ninf
    exact ⟨i1, s1, read_eq (i2.trans s2.symm)⟩

theorem wid_infw {a : Nat} {s : Bool} (hr : FloatKind.f32.format.read a = .infinity s) : R.wid a = FloatKind.f64.format.write (.infinity s) := by
  have hn : isNan .f32 a = false := by unfold isNan; rw [hr]; rfl
  show (fconv .f32 a .f64).getD 0 = _
  unfold fconv floatToFloatBits FloatKind.decode FloatKind.encode
  rw [hn, hr]
  rfl

theorem log_good (a : Nat) : LogGood a := by
  rcases nm_dec .f32 a with h | h
  · exact log_good_fin h
  rcases not_nm h with h | ⟨s, h⟩
  · have hw := wid_nan h
    have hr : ∃ s t, FloatKind.f32.format.read a = .nan s t := by
      unfold isNan at h
      cases hr : FloatKind.f32.format.read a with
      | nan s t => exact ⟨s, t, rfl⟩
      | number s m e => rw [hr] at h; cases h
      | infinity s => rw [hr] at h; cases h
    obtain ⟨s, t, hr⟩ := hr
    have c1 : R.cmp .eql .f32 a 0 = false := by show feq .f32 a 0 = false; unfold feq Format.order; rw [hr]; rfl
    have c2 : R.cmp .lss .f32 a 0 = false := by show flt .f32 a 0 = false; unfold flt Format.order; rw [hr]; rfl
    have c3 : R.cmp .neq .f32 a a = true := by rw [neq_not]; show (!feq .f32 a a) = true; unfold feq Format.order; rw [hr]; rfl
    obtain ⟨i1, i2⟩ := impl_log_nan c1 c2 c3
    obtain ⟨s1, s2⟩ := spec_log_of (lw_nan (by rw [hw]; decide)) nar_nan
    exact ⟨i1, s1, read_eq (i2.trans s2.symm)⟩
  · have hw := wid_infw h
    have hnm : ¬ Nm .f32 a := by intro ⟨_, _, _, h'⟩; rw [h] at h'; cases h'
    have c1 : R.cmp .eql .f32 a 0 = false := by show feq .f32 a 0 = false; unfold feq Format.order; rw [h]; cases s <;> rfl
    cases s
    · have c2 : R.cmp .lss .f32 a 0 = false := by show flt .f32 a 0 = false; unfold flt Format.order; rw [h]; rfl
      have c3 : R.cmp .neq .f32 a a = false := by rw [neq_not]; show (!feq .f32 a a) = false; unfold feq Format.order; rw [h]; rfl
      have hf : p_impl_IsFinite R a = false := by rw [fin_wide]; exact decide_eq_false hnm
      obtain ⟨i1, i2⟩ := impl_log_inf c1 c2 c3 hf
      obtain ⟨s1, s2⟩ := spec_log_of (a := a) (lw_inf (by rw [hw]; decide) (by rw [hw]; decide) (by rw [hw]; decide) (by rw [hw]; decide)) (by rw [hw]; decide)
      refine ⟨i1, s1, ?_⟩
      rw [i2, s2, h, hw]
      decide
    · have c2 : R.cmp .lss .f32 a 0 = true := by show flt .f32 a 0 = true; unfold flt Format.order; rw [h]; rfl
      obtain ⟨i1, i2⟩ := impl_log_neg c1 c2
      obtain ⟨s1, s2⟩ := spec_log_of (a := a) (lw_neg (by rw [hw]; decide) (by rw [hw]; decide)) nar_nan
      exact ⟨i1, s1, read_eq (i2.trans s2.symm)⟩

/-- a quotient leans on what its words say -/
theorem quo_read {a b c : Nat} (h : FloatKind.f32.format.read a = FloatKind.f32.format.read b) : R.bin .quo .f32 a c = R.bin .quo .f32 b c := by
  show (FloatKind.f32.format.div a c).getD (nanOf .f32) = (FloatKind.f32.format.div b c).getD (nanOf .f32)
  unfold Format.div
  rw [h]

/-! ### courses -/
theorem stretch_c0 (a : Nat) : c0_impl_stretch R a = c0_spec_l02Stretch R a := by
  unfold c0_impl_stretch c0_spec_l02Stretch
  rw [sine_eq, cos_eq]
theorem stretch_val (a : Nat) : p_impl_stretch R a = R.bin .quo .f32 (p_spec_l01Log R (c0_spec_l02Stretch R a)) 1086918619 := by
  unfold p_impl_stretch
  rw [stretch_c0]
  exact quo_read (log_good _).2.2
theorem north_ok (a : Nat) : r_impl_StretchNorth R a = true := by
  unfold r_impl_StretchNorth r_impl_stretch
  rw [(log_good _).1]; rfl
theorem spec_ok (a : Nat) : r_spec_l02Stretch R a = true := by
  unfold r_spec_l02Stretch
  rw [(log_good _).2.1]
  cases R.cmp .gtr .f32 a 3196059648 <;> cases R.cmp .lss .f32 a 1048576000 <;> rfl

theorem north_eq (a : Nat) : p_impl_StretchNorth R a = p_spec_l02Stretch R a := by
  unfold p_impl_StretchNorth p_spec_l02Stretch c0_impl_StretchNorth c1_spec_l02Stretch
  rw [stretch_val, ← number_eq]
  unfold p_impl_isBetweenPoles
  cases R.cmp .gtr .f32 a 3196059648 <;> cases R.cmp .lss .f32 a 1048576000 <;> rfl

end Go.Dv
