/- Lc, Ld, Lh: merged by merge.py. -/
import Derived.Test.YtggaemodkekeeaaLlf

/- Bounds: what the sines, logarithms, points and steps are no greater than. -/
namespace Go.Dv
open Go.Cv
open Ieee

/-! ### sines -/
theorem sinCore_two {f : Nat} (hf : Nm .f64 f) (h0 : 0 ≤ fv .f64 f) (h1 : fv .f64 f ≤ 1 / 4) : Bd (sinCore R f) 1 := by
  unfold sinCore
  have t1 := turn_lo
  have t2 := turn_hi
  have bt := bd_turn
  have p22 : p2 2 = 4 := by decide +kernel
  have l0 : 0 ≤ fv .f64 f * fv .f64 4618760256179416344 := Rat.mul_nonneg h0 (by grind)
  have l2 : fv .f64 f * fv .f64 4618760256179416344 ≤ 13 / 8 := by
    have a1 : fv .f64 f * fv .f64 4618760256179416344 ≤ (1 / 4) * fv .f64 4618760256179416344 := Rat.mul_le_mul_of_nonneg_right h1 (by grind)
    grind
  have hz := rd_mul hf bt.1
  obtain ⟨hN, _, _⟩ := hz.le 2 (by decide) (by decide) (by rw [p22]; grind) (by rw [p22]; grind)
  have z1 := hz.pos l0 hN
  have z2 := (rc_mul hf bt.1).le _ nm_13 hN (by rw [fv_13]; exact l2)
  rw [fv_13] at z2
  generalize R.bin .mul .f64 f 4618760256179416344 = z at *
  have m1 : fv .f64 z * fv .f64 z ≤ 3 := by
    have a1 : fv .f64 z * fv .f64 z ≤ fv .f64 z * (13 / 8) := Rat.mul_le_mul_of_nonneg_left z2 z1
    have a2 : fv .f64 z * (13 / 8) ≤ (13 / 8) * (13 / 8) := Rat.mul_le_mul_of_nonneg_right z2 (by decide +kernel)
    grind
  have m0 : 0 ≤ fv .f64 z * fv .f64 z := Rat.mul_nonneg z1 z1
  have hu := rd_mul hN hN
  obtain ⟨hNu, _, _⟩ := hu.le 2 (by decide) (by decide) (by rw [p22]; grind) (by rw [p22]; grind)
  have u3 := (rc_mul hN hN).le _ nm_three hNu (by rw [fv_three]; exact m1)
  rw [fv_three] at u3
  have u0 := hu.pos m0 hNu
  obtain ⟨hNp, p1, p3⟩ := sinPoly_half hNu u0 u3 8 (by decide) _ bd_one.1 (by rw [fv_one]; decide +kernel) (by rw [fv_one]; exact Rat.le_refl)
  generalize sinPoly R (R.bin .mul .f64 z z) 8 4607182418800017408 = p at *
  have o0 : 0 ≤ fv .f64 z * fv .f64 p := Rat.mul_nonneg z1 (by grind)
  have o2 : fv .f64 z * fv .f64 p ≤ 2 := by
    have a1 : fv .f64 z * fv .f64 p ≤ fv .f64 z * 1 := Rat.mul_le_mul_of_nonneg_left p3 z1
    grind
  exact (rd_mul hN hNp).le 1 (by decide) (by decide) (by rw [p2_one]; exact o2) (by rw [p2_one]; grind)

theorem sineTail_two {f : Nat} (h : Nm .f64 f) (h0 : 0 ≤ fv .f64 f) (h1 : fv .f64 f ≤ 1) : Bd (sineTail R f) 1 := by
  have hh : Nm .f64 (sinHalf R f) ∧ 0 ≤ fv .f64 (sinHalf R f) ∧ fv .f64 (sinHalf R f) ≤ 1 / 2 := by
    unfold sinHalf
    rw [geq_nm h bd_half.1, fv_half]
    by_cases hc : (1 / 2 : Rat) ≤ fv .f64 f
    · rw [decide_eq_true hc, cond_true]
      have hr := rd_sub h bd_half.1
      rw [fv_half] at hr
      obtain ⟨hN, hl, _⟩ := hr.le (-1) (by decide) (by decide) (by rw [p2_m1]; grind) (by rw [p2_m1]; grind)
      rw [p2_m1] at hl
      exact ⟨hN, hr.pos (by grind) hN, hl⟩
    · rw [decide_eq_false hc, cond_false]
      exact ⟨h, h0, by grind⟩
  have hq : Nm .f64 (sinQuarter R (sinHalf R f)) ∧ 0 ≤ fv .f64 (sinQuarter R (sinHalf R f)) ∧ fv .f64 (sinQuarter R (sinHalf R f)) ≤ 1 / 4 := by
    obtain ⟨a1, a2, a3⟩ := hh
    unfold sinQuarter
    rw [gtr_nm a1 bd_quart.1, fv_q64]
    by_cases hc : 1 / 4 < fv .f64 (sinHalf R f)
    · rw [decide_eq_true hc, cond_true]
      have hr := rd_sub bd_half.1 a1
      rw [fv_half] at hr
      obtain ⟨hN, hl, _⟩ := hr.le (-2) (by decide) (by decide) (by rw [p2_m2]; grind) (by rw [p2_m2]; grind)
      rw [p2_m2] at hl
      exact ⟨hN, hr.pos (by grind) hN, hl⟩
    · rw [decide_eq_false hc, cond_false]
      exact ⟨a1, a2, by grind⟩
  have hb := sinCore_two hq.1 hq.2.1 hq.2.2
  unfold sineTail
  cases R.cmp .geq .f64 f 4602678819172646912
  · exact hb
  · exact bd_neg hb

/-- the sine of a number is at most two -/
theorem sine_two {a : Nat} (h : Nm .f32 a) : Bk .f32 (p_spec_l01Sine R a) 1 := by
  rw [← sine_eq, impl_sineW]
  have w := (wid_nm h).1
  unfold sineW
  rw [decide_eq_true w, Bool.not_true, cond_false]
  cases hc : R.cmp .geq .f64 (R.abs (R.wid a)) 4841369599423283200
  · rw [cond_false]
    obtain ⟨s, m, e, hr⟩ := w
    obtain ⟨f1, f2, f3⟩ := fraction_nm hr (small_mg hr hc)
    rw [← fraction_eq] at f1 f2 f3
    exact bk_nar (sineTail_two f1 f2 f3) (by decide) (by decide)
  · rw [cond_true, nar_zero]
    exact ⟨nm32_zero, by rw [fv32_zero]; exact p2_nonneg _, by rw [fv32_zero]; have := p2_nonneg 1; grind⟩
theorem cos_two {a : Nat} (h : Nm .f32 (R.bin .add .f32 a 1048576000)) : Bk .f32 (p_spec_l02Cosine R a) 1 := sine_two h

/-! ### phasors -/
/-! ### logarithms -/
end Go.Dv

/- Bounds of angles, points and steps. -/
namespace Go.Dv
open Go.Cv
open Ieee

/-! ### roots -/
theorem rootFrom_ge (n : Nat) : ∀ todo root, root ≤ Datum.rootFrom n todo root := by
  intro todo
  induction todo with
  | zero => intro root; exact Nat.le_refl _
  | succ k ih =>
    intro root
    unfold Datum.rootFrom
    simp only
    split
    · exact Nat.le_trans (Nat.le_add_right _ _) (ih _)
    · exact ih _
theorem rootFrom_top {n : Nat} (hn : n ≠ 0) : 2 ^ (n.log2 / 2) ≤ Datum.rootFrom n (n.log2 / 2 + 1) 0 := by
  unfold Datum.rootFrom
  simp only [Nat.zero_add, Nat.one_shiftLeft]
  have h1 : 2 ^ (n.log2 / 2) * 2 ^ (n.log2 / 2) ≤ n := by
    rw [← Nat.pow_add]
    refine Nat.le_trans (Nat.pow_le_pow_right (by decide) ?_) (Nat.log2_self_le hn)
    omega
  rw [if_pos h1]
  exact rootFrom_ge _ _ _

theorem sqrt_ge_one {a : Nat} (ha : Nm .f64 a) (h1 : 1 ≤ fv .f64 a) (hN : Nm .f64 (R.sqrt a)) : 1 ≤ fv .f64 (R.sqrt a) := by
  obtain ⟨s, m, i, hr⟩ := ha
  have hv : fv .f64 a = vd (.number s m i) := by unfold fv; rw [hr]
  rw [hv] at h1
  have hg := mg_nonneg m i
  have hs : s = false := by
    cases s
    · rfl
    · exfalso; rw [vd_true] at h1; grind
  subst hs
  rw [vd_false] at h1
  have hm : m ≠ 0 := by
    intro h; subst h; rw [mg_zero] at h1; exact absurd h1 (by decide +kernel)
  obtain ⟨more, hmore, hev⟩ : ∃ more : Nat, more = 2 * (FloatKind.f64.format.fractionBits + 2) - m.log2 + ((i - ((2 * (FloatKind.f64.format.fractionBits + 2) - m.log2 : Nat) : Int)) % 2).toNat ∧ (i - (more : Int)) % 2 = 0 := by
    refine ⟨_, rfl, ?_⟩
    generalize 2 * (FloatKind.f64.format.fractionBits + 2) - m.log2 = z
    omega
  have hform : R.sqrt a = FloatKind.f64.format.nearest false (2 * Datum.rootFrom (m <<< more) ((m <<< more).log2 / 2 + 1) 0 + (Datum.rootFrom (m <<< more) ((m <<< more).log2 / 2 + 1) 0 * Datum.rootFrom (m <<< more) ((m <<< more).log2 / 2 + 1) 0 != (m <<< more)).toNat) ((i - more) / 2 - 1) := by
    show (FloatKind.f64.format.sqrt a).getD (nanOf .f64) = _
    unfold Format.sqrt
    rw [hr, hmore]
    simp only [Datum.root, if_neg hm]
    rfl
  have hD : mg (m <<< more) (i - more) = mg m i := by
    rw [mg_shift (show i - (more : Int) ≤ i by omega), Nat.shiftLeft_eq]
    congr 3; omega
  have hDpos : m <<< more ≠ 0 := by
    rw [Nat.shiftLeft_eq]
    have := Nat.two_pow_pos more
    exact Nat.mul_ne_zero hm (by omega)
  have hW := rootFrom_top hDpos
  rw [hform] at hN ⊢
  generalize Datum.rootFrom (m <<< more) ((m <<< more).log2 / 2 + 1) 0 = W at *
  have hlt : m <<< more < 2 ^ ((m <<< more).log2 + 1) := Nat.lt_log2_self
  generalize m <<< more = D at *
  obtain ⟨U, hU⟩ : ∃ U : Int, i - more = 2 * U := ⟨(i - more) / 2, by omega⟩
  have hU2 : (i - (more : Int)) / 2 = U := by omega
  rw [hU2] at hN ⊢
  rw [hU] at hD
  rw [← hD] at h1
  -- the digits of D reach one
  have hlog : -(2 * U) < D.log2 + 1 := by
    refine Classical.byContradiction fun hc => ?_
    have h2 : mg D (2 * U) ≤ mg (2 ^ (D.log2 + 1)) (2 * U) := mg_le.2 (Nat.le_of_lt hlt)
    have h3 : mg (2 ^ (D.log2 + 1)) (2 * U) = p2 ((D.log2 + 1 : Nat) + 2 * U) := by unfold mg; rw [p2_add, p2_nat]
    have h4 : p2 ((D.log2 + 1 : Nat) + 2 * U) ≤ p2 0 := p2_mono (by omega)
    have h5 : mg D (2 * U) < mg (2 ^ (D.log2 + 1)) (2 * U) := by
      refine Rat.not_le.1 fun h => ?_
      have := mg_le.1 h; omega
    rw [p2_zero] at h4
    rw [h3] at h5
    grind
  have hge : p2 0 ≤ mg (2 * W + (W * W != D).toNat) (U - 1) := by
    have h2 : mg (2 * 2 ^ (D.log2 / 2)) (U - 1) ≤ mg (2 * W + (W * W != D).toNat) (U - 1) := mg_le.2 (by omega)
    refine Rat.le_trans ?_ h2
    rw [mg_double, show U - 1 + 1 = U by omega]
    have h3 : mg (2 ^ (D.log2 / 2)) U = p2 ((D.log2 / 2 : Nat) + U) := by unfold mg; rw [p2_add, p2_nat]
    rw [h3]
    exact p2_mono (by omega)
  have := (rd_nearest .f64 false (2 * W + (W * W != D).toNat) (U - 1)).ge 0 (by decide) hN (by rw [vd_false]; exact hge)
  rw [p2_zero] at this
  exact this

/-! ### angles -/
theorem half_step {t : Nat} (h : Un t) {E : Int} (hE : fv .f64 t ≤ p2 E) (h1 : -1000 ≤ E) (h2 : E ≤ 0) : fv .f64 (angStep R t) ≤ p2 (E - 1) := by
  have hs := un_sq h
  have hr := rd_add bd_one.1 hs.1
  rw [fv_one] at hr
  obtain ⟨s1, s2, s3⟩ := hs
  obtain ⟨k1, k2, k3⟩ := h
  obtain ⟨hN, hl, _⟩ := hr.le 1 (by decide) (by decide) (by rw [p2_one]; grind) (by rw [p2_one]; grind)
  have h0 := hr.pos (by grind) hN
  have h1' := hr.ge 0 (by decide) hN (by rw [p2_zero]; grind)
  rw [p2_zero] at h1'
  have h4 : fv .f64 (R.bin .add .f64 4607182418800017408 (R.bin .mul .f64 t t)) ≤ p2 (2 * 1) := Rat.le_trans hl (p2_mono (by decide))
  obtain ⟨q1, q2, q3⟩ := sqrt_nm hN h0 h4 (by decide) (by decide)
  rw [p2_one] at q3
  have q4 := sqrt_ge_one hN h1' q1
  have hr2 := rd_add bd_one.1 q1
  rw [fv_one] at hr2
  obtain ⟨hN2, hl2, _⟩ := hr2.le 2 (by decide) (by decide) (by rw [p2_two]; grind) (by rw [p2_two]; grind)
  have hg2 := hr2.ge 1 (by decide) hN2 (by rw [p2_one]; grind)
  unfold angStep
  have hb : Bd t E := ⟨k1, hE, by have := p2_nonneg E; grind⟩
  have := bd_quo hb hN2 hg2 (by omega) (by omega)
  exact this.2.1

theorem ang_one : R.bin .quo .f64 4607182418800017408 (R.ofi .f64 (2 * ((0 : Nat) : Int) + 1)) = 4607182418800017408 := by decide +kernel
theorem angPoly_succ (M : FOps) (u k p : Nat) : angPoly M u (k + 1) p = angPoly M u k (M.bin .sub .f64 (M.bin .quo .f64 4607182418800017408 (M.ofi .f64 (2 * (k : Int) + 1))) (M.bin .mul .f64 u p)) := rfl
theorem angPoly_zero (M : FOps) (u p : Nat) : angPoly M u 0 p = p := rfl
theorem angPoly_last {u : Nat} (hu : Bd u (-6)) : ∀ (k : Nat), k ≤ 7 → ∀ p, Bd p 1 → ∃ p1, Bd p1 1 ∧ angPoly R u (k + 1) p = R.bin .sub .f64 4607182418800017408 (R.bin .mul .f64 u p1) := by
  intro k
  induction k with
  | zero =>
    intro _ p h
    refine ⟨p, h, ?_⟩
    rw [angPoly_succ, angPoly_zero, ang_one]
  | succ k ih =>
    intro hk p h
    obtain ⟨d1, d2⟩ := ang_den (k + 1) (by omega)
    have a1 := bd_mul hu h (by decide) (by decide)
    have a2 := bd_quo bd_one d1 d2 (by decide) (by decide)
    have a3 := bd_sub (bd_mono a2 (show (0 - 0 : Int) ≤ 0 by decide)) (bd_mono a1 (show (-6 + 1 : Int) ≤ 0 by decide)) (by decide) (by decide)
    obtain ⟨p1, h1, h2⟩ := ih (by omega) _ (bd_mono a3 (show (0 + 1 : Int) ≤ 1 by decide))
    refine ⟨p1, h1, ?_⟩
    rw [angPoly_succ]
    exact h2

/-- a root is not below nought -/
theorem root_not_neg (z : Nat) : R.cmp .lss .f32 (p_spec_l01Sqrt R z) 0 = false := by
  have e : p_spec_l01Sqrt R z = R.nar (R.sqrt (R.wid z)) := rfl
  rcases nm_dec .f32 z with h | h
  · have w := wid_nm h
    by_cases h0 : 0 ≤ fv .f32 z
    · obtain ⟨s, m, i, hz⟩ := h
      have hle : fv .f32 z ≤ p2 128 := by
        obtain ⟨b1, b2, b3⟩ := read32_e z hz
        have hg := mg_nonneg m i
        have hv : fv .f32 z ≤ mg m i := by unfold fv; rw [hz]; cases s <;> simp only [vd_true, vd_false] <;> grind
        have ht : topOf FloatKind.f32.format = p2 128 := by decide +kernel
        rw [ht] at b3
        grind
      obtain ⟨q1, q2, q3⟩ := sqrt_nm w.1 (by rw [w.2]; exact h0) (E := 64) (by rw [w.2]; exact hle) (by decide) (by decide)
      have hb : Bd (R.sqrt (R.wid z)) 64 := ⟨q1, q3, by have := p2_nonneg 64; grind⟩
      have hk := bk_nar hb (by decide) (by decide)
      have hkk := bd_narOk hb (by decide)
      obtain ⟨s', m', e', hr⟩ := q1
      have hN := hk.1
      rw [e, lss_nm hN nm32_zero, fv32_zero]
      have hv : fv .f64 (R.sqrt (R.wid z)) = vd (.number s' m' e') := by unfold fv; rw [hr]
      have hf := nar_form hr hkk
      rw [hf] at hN ⊢
      have := (rd_nearest .f32 s' m' e').pos (by rw [← hv]; exact q2) hN
      exact decide_eq_false (by grind)
    · -- the root of less than nought is none
      have hs : R.sqrt (R.wid z) = nanOf .f64 := by
        obtain ⟨s, m, i, hr⟩ := w.1
        have hv : fv .f32 z = vd (.number s m i) := by rw [← w.2]; unfold fv; rw [hr]
        have hg := mg_nonneg m i
        rw [hv] at h0
        cases s
        · exfalso; rw [vd_false] at h0; exact h0 hg
        · have hm : m ≠ 0 := by intro hm; subst hm; rw [vd_true, mg_zero] at h0; exact h0 (by decide +kernel)
          show (FloatKind.f64.format.sqrt (R.wid z)).getD (nanOf .f64) = _
          unfold Format.sqrt
          rw [hr]
          simp only [Datum.root, if_neg hm]
          rfl
      rw [e, hs]; decide
  · rcases not_nm h with h | ⟨s, h⟩
    · rw [e, wid_nan h]; decide
    · rw [e, wid_infw h]; cases s <;> decide
end Go.Dv

/- Bounds of points and steps; lengths and products narrow. -/
namespace Go.Dv
open Go.Cv
open Ieee

theorem add_q_nm {n : Nat} (h : Nm .f32 n) (h1 : -1 ≤ fv .f32 n) (h2 : fv .f32 n ≤ 1) : Nm .f32 (R.bin .add .f32 n 1048576000) := by
  have hr := rd_add h nm_q32
  rw [fv_q32] at hr
  exact (hr.le 1 (by decide) (by decide) (by rw [p2_one]; grind) (by rw [p2_one]; grind)).1

/-! ### steps -/
end Go.Dv
