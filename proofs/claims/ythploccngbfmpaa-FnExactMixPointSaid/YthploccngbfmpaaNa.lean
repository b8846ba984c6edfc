/- That what is narrowed fits (part 1). -/
import Derived.Test.YthploccngbfmpaaGa
namespace Go.Dv
open Go.Cv
open Ieee

theorem write_inf_not (s : Bool) : ∀ s' m e, FloatKind.f64.format.read (FloatKind.f64.format.write (.infinity s)) ≠ .number s' m e := by
  have h : ∃ t, FloatKind.f64.format.read (FloatKind.f64.format.write (.infinity s)) = .infinity t := by cases s <;> exact ⟨_, rfl⟩
  obtain ⟨t, h⟩ := h
  intro s' m e hc
  rw [h] at hc; cases hc
theorem nan_not (s' : Bool) (m : Nat) (e : Int) : FloatKind.f64.format.read (nanOf .f64) ≠ .number s' m e := by
  intro h
  exact nan_not_nm (isNan_nanOf .f64) ⟨_, _, _, h⟩

/-- a bound of a float32, as a whole number of units -/
theorem f32_top {m : Nat} {e : Int} (h1 : m < 2 ^ 24) (h2 : -149 ≤ e) (h3 : e ≤ 103) : mg m e < topOf FloatKind.f32.format :=
  top_of (by rw [B32]; omega) (by show e + 1 ≤ 104; omega)

theorem read32_e (a : Nat) {s : Bool} {m : Nat} {e : Int} (h : FloatKind.f32.format.read a = .number s m e) : m < 2 ^ 24 ∧ -149 ≤ e ∧ mg m e < topOf FloatKind.f32.format := by
  obtain ⟨_, _, _, _, h1, h2, h3⟩ := wid_num h
  refine ⟨h1, h2, ?_⟩
  by_cases hc : e ≤ 103
  · exact f32_top h1 h2 hc
  · have he : e = 104 := by omega
    subst he
    have h4 : topOf FloatKind.f32.format = mg (2 * FloatKind.f32.format.binade) 104 := by
      rw [mg_double]
      exact congrArg (mg FloatKind.f32.format.binade) (top_eq .f32)
    rw [h4, B32]
    refine Rat.not_le.1 fun hc => ?_
    have := mg_le.1 hc
    omega

theorem floor_fits (a : Nat) : R.narOk (R.floor (R.wid a)) = true := by
  refine narOk_of fun s' m' e' hr' => ?_
  rcases nm_dec .f32 a with ⟨s, m, e, hr⟩ | h
  · obtain ⟨m1, e1, hx, hv, _⟩ := wid_num hr
    obtain ⟨b1, b2, b3⟩ := read32_e a hr
    have hn : isNan .f64 (R.wid a) = false := nm_not_nan ⟨_, _, _, hx⟩
    have hf : R.floor (R.wid a) = FloatKind.f64.format.nearest s (Toward.down.cut s (m1 <<< e1.toNat) (-e1).toNat) 0 := by
      show ffloor .down (R.wid a) = _
      unfold ffloor
      rw [hn, decode_eq, hx]
      rw [if_neg (by decide)]
      unfold FloatKind.encode Datum.integral
      simp only [Format.write]
    rw [hf] at hr'
    by_cases he : 0 ≤ e
    · -- whole already
      have hc : Toward.down.cut s (m1 <<< e1.toNat) (-e1).toNat ≤ m * 2 ^ e.toNat := by
        refine cut_down_le _ _ _ _ ((units_le _ _ _).1 ?_)
        rw [hv, mg_shift he]
        have : (e - 0).toNat = e.toNat := by omega
        rw [this]; exact Rat.le_refl
      have h1 : mg (Toward.down.cut s (m1 <<< e1.toNat) (-e1).toNat) 0 ≤ mg m e := by
        refine Rat.le_trans (mg_le.2 hc) ?_
        rw [mg_shift he]
        have : (e - 0).toNat = e.toNat := by omega
        rw [this]; exact Rat.le_refl
      obtain ⟨m2, e2, hx2, hv2⟩ := nearest_le FloatKind.f64.format (exp3 .f64) s _ 0 m e (by rw [B64]; omega) (by rw [least_eq]; show -1074 ≤ e; omega)
        (top_of (by rw [B64]; omega) (by obtain ⟨_, _, _, _, _, _, h3⟩ := wid_num hr; show e + 1 ≤ 971; omega)) h1
      rw [hr'] at hx2
      cases hx2
      exact ⟨m, e, hv2, by omega, b2, b3⟩
    · have hc : Toward.down.cut s (m1 <<< e1.toNat) (-e1).toNat ≤ m := by
        refine cut_down_le _ _ _ _ ((units_le _ _ _).1 ?_)
        rw [hv]
        exact mg_mono (by omega)
      obtain ⟨m2, e2, hx2, hv2⟩ := nearest_le FloatKind.f64.format (exp3 .f64) s _ 0 m 0 (by rw [B64]; omega) (by decide)
        (top_of (by rw [B64]; omega) (by show (0 : Int) + 1 ≤ 971; omega)) (mg_le.2 hc)
      rw [hr'] at hx2
      cases hx2
      exact ⟨m, 0, hv2, by omega, by omega, f32_top b1 (by omega) (by omega)⟩
  · exfalso
    rcases not_nm h with h | ⟨s, h⟩
    · have hf : R.floor (R.wid a) = nanOf .f64 := by
        rw [wid_nan h]
        show ffloor .down (nanOf .f64) = nanOf .f64
        unfold ffloor
        rw [isNan_nanOf]; rfl
      rw [hf] at hr'
      exact nan_not _ _ _ hr'
    · have hi := wid_inf h
      have hn : isNan .f64 (R.wid a) = false := by unfold isNan; rw [hi]; rfl
      have hf : R.floor (R.wid a) = FloatKind.f64.format.write (.infinity s) := by
        show ffloor .down (R.wid a) = _
        unfold ffloor
        rw [hn, decode_eq, hi]
        rw [if_neg (by decide)]
        unfold FloatKind.encode Datum.integral
        rfl
      rw [hf] at hr'
      exact write_inf_not _ _ _ _ hr'

theorem abs_fits (a : Nat) : R.narOk (R.abs (R.wid a)) = true := by
  refine narOk_of fun s' m' e' hr' => ?_
  rcases nm_dec .f32 a with ⟨s, m, e, hr⟩ | h
  · obtain ⟨m1, e1, hx, hv, _⟩ := wid_num hr
    obtain ⟨b1, b2, b3⟩ := read32_e a hr
    obtain ⟨c1, c2, c3⟩ := abs_nm (a := R.wid a) ⟨_, _, _, hx⟩
    refine ⟨m, e, ?_, by omega, b2, b3⟩
    have g1 := mg_nonneg m e
    have g2 := mg_nonneg m' e'
    unfold fv at c2 c3
    rw [hr', hx] at c3
    rw [hr'] at c2
    cases s <;> cases s' <;> simp only [vd_true, vd_false] at * <;> grind
  · exfalso
    rcases not_nm h with h | ⟨s, h⟩
    · have : R.abs (R.wid a) = nanOf .f64 := by
        rw [wid_nan h]
        show fabs (nanOf .f64) = nanOf .f64
        unfold fabs
        rw [isNan_nanOf]; rfl
      rw [this] at hr'
      exact nan_not _ _ _ hr'
    · have hw : R.wid a = FloatKind.f64.format.write (.infinity s) := by
        have hn : isNan .f32 a = false := by unfold isNan; rw [h]; rfl
        show (fconv .f32 a .f64).getD 0 = _
        unfold fconv floatToFloatBits FloatKind.decode FloatKind.encode
        rw [hn, h]
        rfl
      rw [hw] at hr'
      have : ∃ t, FloatKind.f64.format.read (R.abs (FloatKind.f64.format.write (.infinity s))) = .infinity t := by cases s <;> exact ⟨false, rfl⟩
      obtain ⟨t, this⟩ := this
      rw [this] at hr'; cases hr'

theorem sqrt_fits (a : Nat) : R.narOk (R.sqrt (R.wid a)) = true := by
  rcases nm_dec .f32 a with ⟨s, m, e, hr⟩ | h
  · obtain ⟨m1, e1, hx, hv, b1, b2, b3⟩ := wid_num hr
    have hb : mg m1 e1 ≤ p2 (2 * 64) := by
      rw [hv, p2_mg]
      refine Rat.le_trans (mg_le.2 (Nat.le_of_lt b1)) ?_
      refine Rat.le_trans (mg_mono b3) ?_
      rw [mg_shift (show (104 : Int) ≤ 2 * 64 by decide) (m := 1)]
      exact mg_le.2 (by decide)
    by_cases h0 : 0 ≤ fv .f64 (R.wid a)
    · have hE : fv .f64 (R.wid a) ≤ p2 (2 * 64) := by
        have g1 := mg_nonneg m1 e1
        unfold fv; rw [hx]
        cases s <;> simp only [vd_true, vd_false] <;> grind
      obtain ⟨c1, c2, c3⟩ := sqrt_nm (a := R.wid a) ⟨_, _, _, hx⟩ h0 hE (by decide) (by decide)
      refine narOk_bd fun _ => ?_
      have := p2_mono (show (64 : Int) ≤ 127 by decide)
      constructor <;> grind
    · have hs : s = true := by
        cases s
        · exfalso; apply h0; unfold fv; rw [hx]; exact mg_nonneg _ _
        · rfl
      subst hs
      have hm : m1 ≠ 0 := by
        intro hm; apply h0; unfold fv; rw [hx, hm, vd_true, mg_zero]; decide
      have : R.sqrt (R.wid a) = nanOf .f64 := by
        show (FloatKind.f64.format.sqrt (R.wid a)).getD (nanOf .f64) = _
        unfold Format.sqrt
        rw [hx]
        simp [Datum.root, hm]
      rw [this]; decide
  · rcases not_nm h with h | ⟨s, h⟩
    · rw [wid_nan h]; decide
    · have hi := wid_inf h
      cases s
      · have : R.sqrt (R.wid a) = FloatKind.f64.format.write (.infinity false) := by
          show (FloatKind.f64.format.sqrt (R.wid a)).getD (nanOf .f64) = _
          unfold Format.sqrt
          rw [hi]; rfl
        rw [this]; decide
      · have : R.sqrt (R.wid a) = nanOf .f64 := by
          show (FloatKind.f64.format.sqrt (R.wid a)).getD (nanOf .f64) = _
          unfold Format.sqrt
          rw [hi]; rfl
        rw [this]; decide

theorem rr_impl_floor (a : Nat) : r_impl_floor R a = true := by
  unfold r_impl_floor p_math_Floor; rw [floor_fits]; rfl
theorem rr_impl_RootNumber (a : Nat) : r_impl_RootNumber R a = true := by
  unfold r_impl_RootNumber p_math_Sqrt; rw [sqrt_fits]; rfl
theorem rr_spec_l01Sqrt (a : Nat) : r_spec_l01Sqrt R a = true := by
  unfold r_spec_l01Sqrt r_spec_l01Narrow p_math_Sqrt; rw [sqrt_fits]; rfl
theorem rr_impl_absolute (a : Nat) : r_impl_absolute R a = true := by
  unfold r_impl_absolute; rw [abs_fits]; rfl
theorem rr_spec_l02Wrap (a : Nat) : r_spec_l02Wrap R a = true := by
  unfold r_spec_l02Wrap p_math_Floor; rw [floor_fits]; rfl
end Go.Dv
