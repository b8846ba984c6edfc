/- That what is narrowed fits (part 2); sine and angle of the program are those of the reference. -/
import Derived.Test.YtggaemodkekeeaaQc
import Derived.Test.YtggaemodkekeeaaGa

namespace Go.Dv
open Go.Cv
open Ieee

theorem neq_not (k : FloatKind) (a b : Nat) : R.cmp .neq k a b = !R.cmp .eql k a b := rfl

theorem fin_impl (a : Nat) : p_impl_isFinite R a = decide (Nm .f64 a) := self_sub .f64 a
theorem fin_wide (a : Nat) : p_impl_IsFinite R a = decide (Nm .f32 a) := by
  unfold p_impl_IsFinite
  rw [fin_impl]
  rcases nm_dec .f32 a with h | h
  · have := (wid_nm h).1; simp [h, this]
  · have := wid_not_nm h; simp [h, this]
theorem nar_nan : R.narOk (p_math_NaN R) = true := by decide
theorem nar_zero : R.nar 0 = 0 := by decide

/-! ### the sine -/

theorem fv_big : fv .f64 4841369599423283200 = p2 52 := by decide +kernel
theorem nm_big : Nm .f64 4841369599423283200 := ⟨_, _, _, rfl⟩
theorem fv_nbig : fv .f64 14064741636278059008 = -(p2 52) := by decide +kernel
theorem nm_nbig : Nm .f64 14064741636278059008 := ⟨_, _, _, rfl⟩

theorem big_eq {y : Nat} (h : Nm .f64 y) : (bif R.cmp .geq .f64 y 4841369599423283200 then true else R.cmp .leq .f64 y 14064741636278059008) = R.cmp .geq .f64 (R.abs y) 4841369599423283200 := by
  obtain ⟨h1, h2, h3⟩ := abs_nm h
  rw [geq_nm h nm_big, leq_nm h nm_nbig, geq_nm h1 nm_big, fv_big, fv_nbig]
  have hp := p2_pos 52
  by_cases c1 : p2 52 ≤ fv .f64 y
  · have : p2 52 ≤ fv .f64 (R.abs y) := by grind
    rw [decide_eq_true c1, decide_eq_true this]; rfl
  · rw [decide_eq_false c1, cond_false]
    by_cases c2 : fv .f64 y ≤ -(p2 52)
    · have : p2 52 ≤ fv .f64 (R.abs y) := by grind
      rw [decide_eq_true c2, decide_eq_true this]
    · have : ¬ p2 52 ≤ fv .f64 (R.abs y) := by grind
      rw [decide_eq_false c2, decide_eq_false this]

theorem small_mg {y : Nat} {s : Bool} {m : Nat} {e : Int} (hr : FloatKind.f64.format.read y = .number s m e) (hc : R.cmp .geq .f64 (R.abs y) 4841369599423283200 = false) : mg m e ≤ p2 52 := by
  have hN : Nm .f64 y := ⟨_, _, _, hr⟩
  obtain ⟨h1, h2, h3⟩ := abs_nm hN
  rw [geq_nm h1 nm_big, fv_big] at hc
  have hc := of_decide_eq_false hc
  have hg := mg_nonneg m e
  unfold fv at h2 h3 hc
  rw [hr] at h3
  cases s <;> simp only [vd_true, vd_false] at h3 <;> grind

theorem spec_frac {y : Nat} {s : Bool} {m : Nat} {e : Int} (hr : FloatKind.f64.format.read y = .number s m e) (h : mg m e ≤ p2 52) : specFrac R y = p_impl_fraction R y := by
  rw [fraction_eq]
  unfold specFrac fracW
  rw [(toi_nm hr h).2]

/-- the sine of a wide number, as both tell it -/
def sineW (y : Nat) : Nat := bif !decide (Nm .f64 y) then p_math_NaN R else bif R.cmp .geq .f64 (R.abs y) 4841369599423283200 then 0 else sineTail R (p_impl_fraction R y)

theorem spec_sineW (y : Nat) : p_spec_l01SineWide R y = sineW y := by
  unfold p_spec_l01SineWide sineW
  rw [neq_not, self_sub]
  rcases nm_dec .f64 y with h | h
  · rw [decide_eq_true h]
    simp only [Bool.not_true, cond_false]
    rw [big_eq h]
    cases hc : R.cmp .geq .f64 (R.abs y) 4841369599423283200
    · obtain ⟨s, m, e, hr⟩ := h
      simp only [cond_false]
      rw [spec_frac hr (small_mg hr hc)]
    · rfl
  · rw [decide_eq_false h]; rfl

theorem rr_spec_l01SineWide (y : Nat) : r_spec_l01SineWide R y = true := by
  unfold r_spec_l01SineWide
  rw [neq_not, self_sub]
  rcases nm_dec .f64 y with h | h
  · rw [decide_eq_true h]
    simp only [Bool.not_true, cond_false]
    rw [big_eq h]
    cases hc : R.cmp .geq .f64 (R.abs y) 4841369599423283200
    · obtain ⟨s, m, e, hr⟩ := h
      simp only [cond_false]
      exact (toi_nm hr (small_mg hr hc)).1
    · rfl
  · rw [decide_eq_false h]; rfl

theorem sineW_narOk (y : Nat) : R.narOk (sineW y) = true := by
  unfold sineW
  rcases nm_dec .f64 y with h | h
  · rw [decide_eq_true h]
    simp only [Bool.not_true, cond_false]
    cases hc : R.cmp .geq .f64 (R.abs y) 4841369599423283200
    · obtain ⟨s, m, e, hr⟩ := h
      simp only [cond_false]
      rw [fraction_eq]
      obtain ⟨a1, a2, a3⟩ := fraction_nm hr (small_mg hr hc)
      exact bd_narOk (sineTail_bd a1 a2 a3) (by decide)
    · show R.narOk 0 = true
      decide
  · rw [decide_eq_false h]; exact nar_nan

theorem impl_sineW (a : Nat) : p_impl_SineTurns R a = R.nar (sineW (R.wid a)) := by
  unfold p_impl_SineTurns sineW c1_impl_SineTurns c2_impl_SineTurns c0_impl_SineTurns p_impl_sine
  rw [fin_impl]
  cases decide (Nm .f64 (R.wid a))
  · rfl
  · simp only [Bool.not_true, cond_false]
    cases R.cmp .geq .f64 (R.abs (R.wid a)) 4841369599423283200
    · rfl
    · exact nar_zero.symm

theorem sine_eq (a : Nat) : p_impl_SineTurns R a = p_spec_l01Sine R a := by
  rw [impl_sineW, ← spec_sineW]; rfl

theorem rr_impl_SineTurns (a : Nat) : r_impl_SineTurns R a = true := by
  have h := sineW_narOk (R.wid a)
  unfold sineW at h
  unfold r_impl_SineTurns c1_impl_SineTurns c2_impl_SineTurns c0_impl_SineTurns p_impl_sine
  rw [fin_impl]
  revert h
  cases decide (Nm .f64 (R.wid a))
  · intro _; simp only [Bool.not_false, cond_true]
    exact nar_nan ▸ rfl
  · simp only [Bool.not_true, cond_false]
    cases R.cmp .geq .f64 (R.abs (R.wid a)) 4841369599423283200
    · simp only [cond_false]
      intro h
      rw [h]; rfl
    · intro _; rfl

theorem rr_spec_l01Sine (a : Nat) : r_spec_l01Sine R a = true := by
  have : r_spec_l01Sine R a = ((R.narOk (p_spec_l01SineWide R (R.wid a)) && true) && true) := rfl
  rw [this, spec_sineW, sineW_narOk]; rfl

/-! ### the angle -/

/-- a number from nought to one -/
def Un (t : Nat) : Prop := Nm .f64 t ∧ 0 ≤ fv .f64 t ∧ fv .f64 t ≤ 1
theorem un_bd {t : Nat} (h : Un t) : Bd t 0 := ⟨h.1, by rw [p2_zero]; exact h.2.2, by rw [p2_zero]; have := h.2.1; grind⟩
theorem div_unit {x y : Rat} (h0 : 0 ≤ x) (hy : 0 < y) (h : x ≤ y) : 0 ≤ x / y ∧ x / y ≤ 1 := by
  constructor
  · rw [Rat.div_def]; exact Rat.mul_nonneg h0 (Rat.le_of_lt (Rat.inv_pos.2 hy))
  · refine Rat.le_of_mul_le_mul_right ?_ hy
    rw [Rat.div_mul_cancel (by grind)]; grind
theorem un_quo {a b : Nat} (ha : Nm .f64 a) (hb : Nm .f64 b) (h0 : 0 ≤ fv .f64 a) (h1 : fv .f64 a ≤ fv .f64 b) (h2 : 0 < fv .f64 b) : Un (R.bin .quo .f64 a b) := by
  obtain ⟨h3, h4⟩ := div_unit h0 h2 h1
  have hr := rd_quo ha hb (by grind)
  obtain ⟨hN, hl, _⟩ := hr.le 0 (by decide) (by decide) (by rw [p2_zero]; exact h4) (by rw [p2_zero]; grind)
  rw [p2_zero] at hl
  exact ⟨hN, hr.pos h3 hN, hl⟩
theorem un_sq {t : Nat} (h : Un t) : Un (R.bin .mul .f64 t t) := by
  obtain ⟨h1, h2, h3⟩ := h
  have hr := rd_mul h1 h1
  have h4 : 0 ≤ fv .f64 t * fv .f64 t := Rat.mul_nonneg h2 h2
  have h5 : fv .f64 t * fv .f64 t ≤ 1 := by
    have := Rat.mul_le_mul_of_nonneg_left h3 h2
    grind
  obtain ⟨hN, hl, _⟩ := hr.le 0 (by decide) (by decide) (by rw [p2_zero]; exact h5) (by rw [p2_zero]; grind)
  rw [p2_zero] at hl
  exact ⟨hN, hr.pos h4 hN, hl⟩
theorem p2_one : p2 1 = 2 := Rat.zpow_one _
theorem p2_two : p2 2 = 4 := by decide +kernel
theorem un_step {t : Nat} (h : Un t) : Un (angStep R t) := by
  have hs := un_sq h
  have ho : fv .f64 4607182418800017408 = 1 := fv_one
  have hr := rd_add bd_one.1 hs.1
  rw [ho] at hr
  obtain ⟨s1, s2, s3⟩ := hs
  obtain ⟨h1, h2, h3⟩ := h
  obtain ⟨hN, hl, _⟩ := hr.le 1 (by decide) (by decide) (by rw [p2_one]; grind) (by rw [p2_one]; grind)
  have h0 := hr.pos (by grind) hN
  have h4 : fv .f64 (R.bin .add .f64 4607182418800017408 (R.bin .mul .f64 t t)) ≤ p2 (2 * 1) := Rat.le_trans hl (p2_mono (by decide))
  obtain ⟨q1, q2, q3⟩ := sqrt_nm hN h0 h4 (by decide) (by decide)
  rw [p2_one] at q3
  have hr2 := rd_add bd_one.1 q1
  rw [ho] at hr2
  obtain ⟨hN2, hl2, _⟩ := hr2.le 2 (by decide) (by decide) (by rw [p2_two]; grind) (by rw [p2_two]; grind)
  have hg2 := hr2.ge 0 (by decide) hN2 (by rw [p2_zero]; grind)
  rw [p2_zero] at hg2
  unfold angStep
  exact un_quo h1 hN2 h2 (by grind) (by grind)

theorem ang_den : ∀ k < 8, Nm .f64 (R.ofi .f64 (2 * ((k : Nat) : Int) + 1)) ∧ p2 0 ≤ fv .f64 (R.ofi .f64 (2 * ((k : Nat) : Int) + 1)) := by decide +kernel

theorem angPoly_bd {u : Nat} (hu : Bd u 0) : ∀ (k : Nat), k ≤ 8 → ∀ (p : Nat) (E : Int), 0 ≤ E → E + k ≤ 100 → Bd p E → Bd (angPoly R u k p) (E + k) := by
  intro k
  induction k with
  | zero => intro _ p E _ _ h; simpa [angPoly] using h
  | succ k ih =>
    intro hk p E h0 h1 h
    unfold angPoly
    obtain ⟨d1, d2⟩ := ang_den k (by omega)
    have h2 := bd_mul hu h (by omega) (by omega)
    have h3 := bd_quo bd_one d1 d2 (by omega) (by omega)
    have h4 := bd_sub (bd_mono h3 (show (0 : Int) - 0 ≤ 0 + E by omega)) h2 (by omega) (by omega)
    have h5 := ih (by omega) _ (0 + E + 1) (by omega) (by omega) h4
    exact bd_mono h5 (by omega)

theorem bd_eight : Bd 4620693217682128896 3 := ⟨⟨_, _, _, rfl⟩, by decide +kernel, by decide +kernel⟩
theorem bd_quart : Bd 4598175219545276416 0 := ⟨⟨_, _, _, rfl⟩, by decide +kernel, by decide +kernel⟩
theorem turn_ge : p2 2 ≤ fv .f64 4618760256179416344 := by decide +kernel

theorem angCore_bd {t : Nat} (h : Un t) : Bd (angCore R t) 9 := by
  have h3 := un_step (un_step (un_step h))
  unfold angCore
  generalize angStep R (angStep R (angStep R t)) = w at *
  unfold angOf3 angPoly8
  have hp := angPoly_bd (un_bd (un_sq h3)) 8 (by omega) 0 0 (by omega) (by omega) bd_zero
  have h4 := bd_mul (un_bd h3) hp (by omega) (by omega)
  have h5 := bd_mul bd_eight h4 (by omega) (by omega)
  exact bd_mono (bd_quo h5 bd_turn.1 turn_ge (by omega) (by omega)) (by omega)

theorem angTail_bd {a b : Nat} (xn yn : Bool) (ha : Nm .f64 a) (hb : Nm .f64 b) (h0 : 0 ≤ fv .f64 a) (h1 : 0 ≤ fv .f64 b) (hne : ¬ (fv .f64 a = 0 ∧ fv .f64 b = 0)) : Bd (angTail R a b xn yn) 20 := by
  unfold angTail
  simp only
  rw [gtr_nm ha hb]
  have hq : Bd (bif decide (fv .f64 b < fv .f64 a) then R.bin .sub .f64 4598175219545276416 (angCore R (bif decide (fv .f64 b < fv .f64 a) then R.bin .quo .f64 b a else R.bin .quo .f64 a b)) else angCore R (bif decide (fv .f64 b < fv .f64 a) then R.bin .quo .f64 b a else R.bin .quo .f64 a b)) 10 := by
    by_cases hc : fv .f64 b < fv .f64 a
    · rw [decide_eq_true hc]
      simp only [cond_true]
      exact bd_sub (bd_mono bd_quart (show (0 : Int) ≤ 9 by decide)) (angCore_bd (un_quo hb ha h1 (by grind) (by grind))) (by decide) (by decide)
    · rw [decide_eq_false hc]
      simp only [cond_false]
      exact bd_mono (angCore_bd (un_quo ha hb h0 (by grind) (by grind))) (by decide)
  generalize (bif decide (fv .f64 b < fv .f64 a) then R.bin .sub .f64 4598175219545276416 (angCore R (bif decide (fv .f64 b < fv .f64 a) then R.bin .quo .f64 b a else R.bin .quo .f64 a b)) else angCore R (bif decide (fv .f64 b < fv .f64 a) then R.bin .quo .f64 b a else R.bin .quo .f64 a b)) = g at *
  have hx : Bd (bif xn then R.bin .sub .f64 4602678819172646912 g else g) 11 := by
    cases xn
    · exact bd_mono hq (by decide)
    · exact bd_sub (bd_mono bd_half (show (0 : Int) ≤ 10 by decide)) hq (by decide) (by decide)
  cases yn
  · exact bd_mono hx (by decide)
  · exact bd_mono (bd_neg hx) (by decide)

theorem nm32_zero : Nm .f32 0 := ⟨false, 0, _, rfl⟩
theorem fv32_zero : fv .f32 0 = 0 := by decide +kernel
theorem eql0_wide {x : Nat} (h : Nm .f32 x) : R.cmp .eql .f64 (R.wid x) 0 = R.cmp .eql .f32 x 0 := by
  rw [eql_nm (wid_nm h).1 bd_zero.1, eql_nm h nm32_zero, (wid_nm h).2, fv_zero, fv32_zero]
theorem lss0_wide {x : Nat} (h : Nm .f32 x) : R.cmp .lss .f64 (R.wid x) 0 = R.cmp .lss .f32 x 0 := by
  rw [lss_nm (wid_nm h).1 bd_zero.1, lss_nm h nm32_zero, (wid_nm h).2, fv_zero, fv32_zero]

/-- the angle of two wide numbers, as both tell it -/
theorem angle_eq (y x : Nat) : p_impl_AngleTurns R y x = R.nar (p_spec_l01AngleWide R (R.wid y) (R.wid x)) ∧ R.narOk (p_spec_l01AngleWide R (R.wid y) (R.wid x)) = true ∧ r_impl_AngleTurns R y x = true := by
  unfold p_impl_AngleTurns r_impl_AngleTurns p_spec_l01AngleWide p_impl_AngleWide angFin
  rw [fin_wide, fin_wide, neq_not, neq_not, self_sub, self_sub]
  rcases nm_dec .f32 y with hy | hy
  · rcases nm_dec .f32 x with hx | hx
    · have wy := wid_nm hy
      have wx := wid_nm hx
      rw [decide_eq_true hy, decide_eq_true hx, decide_eq_true wy.1, decide_eq_true wx.1]
      simp only [Bool.and_self, cond_true, Bool.not_true, cond_false]
      rw [eql0_wide hx, eql0_wide hy, lss0_wide hx, lss0_wide hy]
      cases hz : (bif R.cmp .eql .f32 x 0 then R.cmp .eql .f32 y 0 else false)
      · simp only [cond_false]
        have hne : ¬ (fv .f64 (R.abs (R.wid y)) = 0 ∧ fv .f64 (R.abs (R.wid x)) = 0) := by
          intro ⟨e1, e2⟩
          have a1 := (abs_nm wy.1).2.2
          have a2 := (abs_nm wx.1).2.2
          have e3 : fv .f32 y = 0 := by rw [← wy.2]; grind
          have e4 : fv .f32 x = 0 := by rw [← wx.2]; grind
          rw [eql_nm hx nm32_zero, eql_nm hy nm32_zero, e3, e4, fv32_zero] at hz
          simp at hz
        have hb := angTail_bd (R.cmp .lss .f32 x 0) (R.cmp .lss .f32 y 0) (abs_nm wy.1).1 (abs_nm wx.1).1 (abs_nm wy.1).2.1 (abs_nm wx.1).2.1 hne
        have := bd_narOk hb (by decide)
        exact ⟨by trivial, this, this⟩
      · simp only [cond_true]
        exact ⟨nar_zero.symm, by decide, by trivial⟩
    · have wy := wid_nm hy
      have wx := wid_not_nm hx
      rw [decide_eq_true hy, decide_eq_false hx, decide_eq_true wy.1, decide_eq_false wx]
      exact ⟨rfl, nar_nan, nar_nan⟩
  · have wy := wid_not_nm hy
    rw [decide_eq_false hy, decide_eq_false wy]
    cases decide (Nm .f32 x) <;> exact ⟨rfl, nar_nan, nar_nan⟩

theorem ang_eq (y x : Nat) : p_impl_AngleTurns R y x = p_spec_l01Angle R y x := (angle_eq y x).1
theorem rr_spec_l01Angle (a b : Nat) : r_spec_l01Angle R a b = true := by
  have : r_spec_l01Angle R a b = ((R.narOk (p_spec_l01AngleWide R (R.wid a) (R.wid b)) && true) && true) := rfl
  rw [this, (angle_eq a b).2.1]; rfl
theorem rr_impl_AngleTurns (a b : Nat) : r_impl_AngleTurns R a b = true := (angle_eq a b).2.2
end Go.Dv
