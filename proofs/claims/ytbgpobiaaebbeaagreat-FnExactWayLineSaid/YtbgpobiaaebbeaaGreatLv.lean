/- Lv, La: merged by merge.py. -/
import Derived.Test.YtbgpobiaaebbeaaGreatGz
import Derived.Test.YtbgpobiaaebbeaaGreatLw
import Derived.Test.YtbgpobiaaebbeaaGreatWp
import Derived.Test.YtbgpobiaaebbeaaGreatLo
import Derived.Test.YtbgpobiaaebbeaaGreatLq

/- Lf, Lv: merged by merge.py. -/
/- The phasors of both texts are the same. -/
namespace Go.Dv
open Go.Cv
open Ieee

theorem ph_W : W_impl_PhasorOf_0 R = W_spec_l01Phasor_0 R := rfl
theorem ph_st (f : Nat) (q : Int) (a b : Nat) : st_spec_l01Phasor_0 R f q a b = brT (R.cmp .geq .f64 f 4598175219545276416) (some (.inl (R.bin .sub .f64 f 4598175219545276416, (IntKind.i64.wrap (q + 1), ((a, b), ()))))) (some (.inr (f, (q, ((a, b), ()))))) := rfl
theorem mg_q (j : Nat) : mg (j + 1) (-2) - 1 / 4 = mg j (-2) := by
  have h : mg (j + 1) (-2) = mg j (-2) + mg 1 (-2) := by
    unfold mg; rw [← Rat.add_mul, ← Rat.natCast_add]
  have h1 : mg 1 (-2) = 1 / 4 := by decide +kernel
  rw [h, h1]; grind

/-- the quarters come to an end -/
theorem ph_loop (a b : Nat) : ∀ (j : Nat) (f : Nat) (q : Int), j ≤ 4 → Nm .f64 f → 0 ≤ fv .f64 f → fv .f64 f ≤ mg j (-2) → 0 ≤ q → q ≤ 100 - j →
    ∃ f' q', W_spec_l01Phasor_0 R (f, q, (a, b), ()) = some (f', q', (a, b), ()) ∧ Nm .f64 f' ∧ 0 ≤ fv .f64 f' ∧ fv .f64 f' < 1 / 4 := by
  intro j
  have out : ∀ f q, R.cmp .geq .f64 f 4598175219545276416 = false → W_spec_l01Phasor_0 R (f, q, (a, b), ()) = some (f, q, (a, b), ()) := by
    intro f q hc
    refine runW_out ?_
    show st_spec_l01Phasor_0 R f q a b = _
    rw [ph_st, hc]; rfl
  induction j with
  | zero =>
    intro f q _ hn h0 h1 _ _
    rw [mg_zero] at h1
    have hc : R.cmp .geq .f64 f 4598175219545276416 = false := by
      rw [geq_nm hn bd_quart.1, fv_q64]; exact decide_eq_false (by grind)
    exact ⟨f, q, out f q hc, hn, h0, by grind⟩
  | succ j ih =>
    intro f q hj hn h0 h1 hq0 hq1
    cases hc : R.cmp .geq .f64 f 4598175219545276416
    · have hc2 := hc
      rw [geq_nm hn bd_quart.1, fv_q64] at hc2
      have := of_decide_eq_false hc2
      exact ⟨f, q, out f q hc, hn, h0, by grind⟩
    · have hc2 := hc
      rw [geq_nm hn bd_quart.1, fv_q64] at hc2
      have hge := of_decide_eq_true hc2
      have hm := mg_q j
      obtain ⟨a1, a2, a3⟩ := sub_mg (mc := j) (ec := -2) hn bd_quart.1 (by rw [B64]; omega) (by decide) (top_of (by rw [B64]; omega) (by decide)) (by rw [fv_q64]; grind) (by rw [fv_q64]; grind)
      obtain ⟨f', q', r1, r2⟩ := ih _ (q + 1) (by omega) a1 a2 a3 (by omega) (by omega)
      refine ⟨f', q', ?_, r2⟩
      rw [← r1]
      refine runW_on ?_
      show st_spec_l01Phasor_0 R f q a b = _
      rw [ph_st, hc, wrap_small (by omega) (by omega)]; rfl

/-- of a small number both tell the same sine -/
theorem sine_small {y : Nat} (h : Nm .f64 y) (h0 : 0 ≤ fv .f64 y) (h1 : fv .f64 y ≤ 1) : p_spec_l01SineWide R y = p_impl_sine R y ∧ Bd (p_impl_sine R y) 43 := by
  obtain ⟨s, m, e, hr⟩ := h
  have hN : Nm .f64 y := ⟨s, m, e, hr⟩
  have hg := mg_nonneg m e
  have p52 : (1 : Rat) < p2 52 := by decide +kernel
  have hm : mg m e ≤ p2 52 := by
    unfold fv at h0 h1; rw [hr] at h0 h1
    cases s <;> simp only [vd_true, vd_false] at h0 h1 <;> grind
  obtain ⟨a1, a2, a3⟩ := abs_nm hN
  obtain ⟨f1, f2, f3⟩ := fraction_nm hr hm
  rw [← fraction_eq] at f1 f2 f3
  refine ⟨?_, sineTail_bd f1 f2 f3⟩
  rw [spec_sineW]
  unfold sineW p_impl_sine
  rw [decide_eq_true hN, Bool.not_true, cond_false, geq_nm a1 nm_big, fv_big, decide_eq_false (by rcases a3 with a3 | a3 <;> rw [a3] <;> grind), cond_false]

theorem ph_from : p_spec_l01From R 2143289344 = nanOf .f32 := by decide +kernel
theorem ph_fromr : r_spec_l01From R 2143289344 = true := by decide +kernel
theorem nar_nan' : R.nar (p_math_NaN R) = nanOf .f32 := by decide

/-- what is told of a fraction and its quarter -/
structure Quarter (f : Nat) : Prop where
  S : p_spec_l01SineWide R f = p_impl_sine R f
  C : p_spec_l01SineWide R (R.bin .sub .f64 4598175219545276416 f) = p_impl_sine R (R.bin .sub .f64 4598175219545276416 f)
  s : R.narOk (p_impl_sine R f) = true
  c : R.narOk (p_impl_sine R (R.bin .sub .f64 4598175219545276416 f)) = true
  s' : R.narOk (R.bin .sub .f64 0 (p_impl_sine R f)) = true
  c' : R.narOk (R.bin .sub .f64 0 (p_impl_sine R (R.bin .sub .f64 4598175219545276416 f))) = true
  bS : Bd (p_impl_sine R f) 43
  bC : Bd (p_impl_sine R (R.bin .sub .f64 4598175219545276416 f)) 43
  n : Nm .f64 f
  lo : 0 ≤ fv .f64 f
  hi : fv .f64 f < 1 / 4

theorem quarter_of {f : Nat} (h : Nm .f64 f) (h0 : 0 ≤ fv .f64 f) (h1 : fv .f64 f < 1 / 4) : Quarter f := by
  obtain ⟨a1, a2⟩ := sine_small h h0 (by grind)
  have hr := rd_sub bd_quart.1 h
  rw [fv_q64] at hr
  obtain ⟨b1, b2, _⟩ := hr.le 0 (by decide) (by decide) (by rw [p2_zero]; grind) (by rw [p2_zero]; grind)
  rw [p2_zero] at b2
  obtain ⟨c1, c2⟩ := sine_small b1 (hr.pos (by grind) b1) b2
  have z := bd_mono bd_zero (show (0 : Int) ≤ 43 by decide)
  exact ⟨a1, c1, bd_narOk a2 (by decide), bd_narOk c2 (by decide), bd_narOk (bd_sub z a2 (by decide) (by decide)) (by decide), bd_narOk (bd_sub z c2 (by decide) (by decide)) (by decide), a2, c2, h, h0, h1⟩

theorem narrow_eq (x : Nat) : p_spec_l01Narrow R x = R.nar x := rfl
theorem narrow_req (x : Nat) : r_spec_l01Narrow R x = (R.narOk x && true) := rfl

theorem ph_small {t : Nat} (h : Nm .f64 t) (hc : R.cmp .geq .f64 (R.abs t) 4841369599423283200 = false) :
    ∃ f q, W_spec_l01Phasor_0 R (p_impl_fraction R t, 0, (0, 0), ()) = some (f, q, (0, 0), ()) ∧ Quarter f := by
  obtain ⟨s, m, e, hr⟩ := h
  obtain ⟨f1, f2, f3⟩ := fraction_nm hr (small_mg hr hc)
  rw [← fraction_eq] at f1 f2 f3
  have h4 : mg 4 (-2) = 1 := by decide +kernel
  obtain ⟨f, q, w, g1, g2, g3⟩ := ph_loop 0 0 4 (p_impl_fraction R t) 0 (by decide) f1 f2 (by rw [h4]; exact f3) (by decide) (by decide)
  exact ⟨f, q, w, quarter_of g1 g2 g3⟩

/-- what both tell of a small number -/
def phOf (f : Nat) (q : Int) : Nat × Nat :=
  bif q == 1 then (R.nar (R.bin .sub .f64 0 (p_impl_sine R f)), R.nar (p_impl_sine R (R.bin .sub .f64 4598175219545276416 f)))
  else bif q == 2 then (R.nar (R.bin .sub .f64 0 (p_impl_sine R (R.bin .sub .f64 4598175219545276416 f))), R.nar (R.bin .sub .f64 0 (p_impl_sine R f)))
  else bif q == 3 then (R.nar (p_impl_sine R f), R.nar (R.bin .sub .f64 0 (p_impl_sine R (R.bin .sub .f64 4598175219545276416 f))))
  else (R.nar (p_impl_sine R (R.bin .sub .f64 4598175219545276416 f)), R.nar (p_impl_sine R f))

theorem phasor_small {t : Nat} (h : Nm .f64 t) (hc : R.cmp .geq .f64 (R.abs t) 4841369599423283200 = false) :
    ∃ f q, Quarter f ∧ p_impl_PhasorOf R t = phOf f q ∧ p_spec_l01Phasor R t = phOf f q ∧ r_impl_PhasorOf R t = true ∧ r_spec_l01Phasor R t = true := by
  obtain ⟨f, q, hw, Q⟩ := ph_small h hc
  refine ⟨f, q, Q, ?_⟩
  have hi : p_impl_isFinite R t = true := by rw [fin_impl]; exact decide_eq_true h
  have hs : R.cmp .neq .f64 (R.bin .sub .f64 t t) 0 = false := by rw [neq_not, self_sub, decide_eq_true h]; rfl
  have hb := big_eq h
  rw [hc] at hb
  have hg : R.cmp .geq .f64 t 4841369599423283200 = false := by
    cases hg : R.cmp .geq .f64 t 4841369599423283200
    · rfl
    · rw [hg] at hb; cases hb
  have hl : R.cmp .leq .f64 t 14064741636278059008 = false := by
    rw [hg] at hb; exact hb
  have c2 : c2_impl_PhasorOf R t = some (f, q, (0, 0), ()) := by unfold c2_impl_PhasorOf; rw [ph_W]; exact hw
  obtain ⟨s, m, e, hr⟩ := h
  obtain ⟨k1, k2⟩ := toi_nm hr (small_mg hr hc)
  have c1 : c1_spec_l01Phasor R t = R.bin .sub .f64 t (wholeW t) := by unfold c1_spec_l01Phasor; rw [k2]
  have hI : p_impl_PhasorOf R t = phOf f q ∧ r_impl_PhasorOf R t = true := by
    unfold p_impl_PhasorOf r_impl_PhasorOf phOf
    simp only [c14_impl_PhasorOf, c13_impl_PhasorOf, c12_impl_PhasorOf, c11_impl_PhasorOf, c10_impl_PhasorOf, c9_impl_PhasorOf, c8_impl_PhasorOf, c7_impl_PhasorOf, c6_impl_PhasorOf, c5_impl_PhasorOf, c4_impl_PhasorOf, c3_impl_PhasorOf, c2, Option.getD_some, Option.isSome_some, Q.s, Q.c, Q.s', Q.c', hi, hc, Bool.not_true, cond_false]
    refine ⟨trivial, ?_⟩
    cases q == 1 <;> cases q == 2 <;> cases q == 3 <;> rfl
  have hfr := fraction_eq t
  unfold fracW at hfr
  rw [← c1] at hfr
  have hS : p_spec_l01Phasor R t = phOf f q ∧ r_spec_l01Phasor R t = true := by
    unfold p_spec_l01Phasor r_spec_l01Phasor phOf
    cases hlt : R.cmp .lss .f64 (c1_spec_l01Phasor R t) 0
    · rw [hlt, cond_false] at hfr
      have c11 : c11_spec_l01Phasor R t = some (f, q, (0, 0), ()) := by unfold c11_spec_l01Phasor; rw [← hfr]; exact hw
      simp only [c19_spec_l01Phasor, c18_spec_l01Phasor, c17_spec_l01Phasor, c16_spec_l01Phasor, c15_spec_l01Phasor, c14_spec_l01Phasor, c13_spec_l01Phasor, c12_spec_l01Phasor, c11, Option.getD_some, Option.isSome_some, narrow_eq, narrow_req, Q.S, Q.C, Q.s, Q.c, Q.s', Q.c', hs, hg, hl, k1, cond_false]
      refine ⟨trivial, ?_⟩
      cases q == 1 <;> cases q == 2 <;> cases q == 3 <;> rfl
    · rw [hlt, cond_true] at hfr
      have c2s : c2_spec_l01Phasor R t = some (f, q, (0, 0), ()) := by unfold c2_spec_l01Phasor; rw [← hfr]; exact hw
      simp only [c10_spec_l01Phasor, c9_spec_l01Phasor, c8_spec_l01Phasor, c7_spec_l01Phasor, c6_spec_l01Phasor, c5_spec_l01Phasor, c4_spec_l01Phasor, c3_spec_l01Phasor, c2s, Option.getD_some, Option.isSome_some, narrow_eq, narrow_req, Q.S, Q.C, Q.s, Q.c, Q.s', Q.c', hs, hg, hl, k1, cond_false, cond_true]
      refine ⟨trivial, ?_⟩
      cases q == 1 <;> cases q == 2 <;> cases q == 3 <;> rfl
  exact ⟨hI.1, hS.1, hI.2, hS.2⟩

theorem phasor_far {t : Nat} (h : ¬ Nm .f64 t) : p_impl_PhasorOf R t = (nanOf .f32, nanOf .f32) ∧ p_spec_l01Phasor R t = (nanOf .f32, nanOf .f32) ∧ r_impl_PhasorOf R t = true ∧ r_spec_l01Phasor R t = true := by
  have hi : p_impl_isFinite R t = false := by rw [fin_impl]; exact decide_eq_false h
  have hs : R.cmp .neq .f64 (R.bin .sub .f64 t t) 0 = true := by rw [neq_not, self_sub, decide_eq_false h]; rfl
  unfold p_impl_PhasorOf p_spec_l01Phasor r_impl_PhasorOf r_spec_l01Phasor c1_impl_PhasorOf c0_impl_PhasorOf c0_spec_l01Phasor
  rw [hi, hs, Bool.not_false, cond_true, cond_true, cond_true, cond_true, nar_nan', nar_nan, ph_from, ph_fromr]
  exact ⟨rfl, rfl, rfl, rfl⟩

theorem phasor_big {t : Nat} (h : Nm .f64 t) (hc : R.cmp .geq .f64 (R.abs t) 4841369599423283200 = true) : p_impl_PhasorOf R t = (1065353216, 0) ∧ p_spec_l01Phasor R t = (1065353216, 0) ∧ r_impl_PhasorOf R t = true ∧ r_spec_l01Phasor R t = true := by
  have hi : p_impl_isFinite R t = true := by rw [fin_impl]; exact decide_eq_true h
  have hs : R.cmp .neq .f64 (R.bin .sub .f64 t t) 0 = false := by rw [neq_not, self_sub, decide_eq_true h]; rfl
  have hb := big_eq h
  rw [hc] at hb
  unfold p_impl_PhasorOf p_spec_l01Phasor r_impl_PhasorOf r_spec_l01Phasor
  rw [hi, hs, hc, Bool.not_true, cond_false, cond_true, cond_false, cond_false, cond_true, cond_false]
  cases hg : R.cmp .geq .f64 t 4841369599423283200
  · rw [hg, cond_false] at hb
    rw [hb]
    exact ⟨rfl, rfl, rfl, rfl⟩
  · exact ⟨rfl, rfl, rfl, rfl⟩

theorem phasor_eq (t : Nat) : p_impl_PhasorOf R t = p_spec_l01Phasor R t ∧ r_impl_PhasorOf R t = true ∧ r_spec_l01Phasor R t = true := by
  rcases nm_dec .f64 t with h | h
  · cases hc : R.cmp .geq .f64 (R.abs t) 4841369599423283200
    · obtain ⟨f, q, _, h1, h2, h3, h4⟩ := phasor_small h hc
      exact ⟨h1.trans h2.symm, h3, h4⟩
    · obtain ⟨h1, h2, h3, h4⟩ := phasor_big h hc
      exact ⟨h1.trans h2.symm, h3, h4⟩
  · obtain ⟨h1, h2, h3, h4⟩ := phasor_far h
    exact ⟨h1.trans h2.symm, h3, h4⟩
end Go.Dv

/- The points of both texts are the same. -/
namespace Go.Dv
open Go.Cv
open Ieee

/-! ### what is no number stays none -/
theorem nan_word {a : Nat} (h : isNan .f32 a = true) : ∃ s t, FloatKind.f32.format.read a = .nan s t := by
  unfold isNan at h
  cases hr : FloatKind.f32.format.read a with
  | nan s t => exact ⟨s, t, rfl⟩
  | number s m e => rw [hr] at h; cases h
  | infinity s => rw [hr] at h; cases h
theorem nanW : isNan .f32 (nanOf .f32) = true := isNan_nanOf _
theorem nan_far : ¬ Nm .f32 (nanOf .f32) := nan_not_nm nanW
theorem inf_far (s : Bool) : ¬ Nm .f32 (FloatKind.f32.format.write (.infinity s)) := by cases s <;> decide
theorem mul_nan_l {a b : Nat} (h : isNan .f32 a = true) : R.bin .mul .f32 a b = nanOf .f32 := by
  obtain ⟨s, t, hr⟩ := nan_word h
  show (FloatKind.f32.format.mul a b).getD (nanOf .f32) = _
  unfold Format.mul
  rw [hr]; rfl
theorem mul_nan_r {a b : Nat} (h : isNan .f32 b = true) : R.bin .mul .f32 a b = nanOf .f32 := by rw [mul_comm']; exact mul_nan_l h
theorem quo_nan_l {a b : Nat} (h : isNan .f32 a = true) : R.bin .quo .f32 a b = nanOf .f32 := by
  obtain ⟨s, t, hr⟩ := nan_word h
  show (FloatKind.f32.format.div a b).getD (nanOf .f32) = _
  unfold Format.div
  rw [hr]; rfl
theorem mul_far_r {a b : Nat} (h : ¬ Nm .f32 b) : ¬ Nm .f32 (R.bin .mul .f32 a b) := by rw [mul_comm']; exact share_far h
theorem sub_far_r {a b : Nat} (h : ¬ Nm .f32 b) : ¬ Nm .f32 (R.bin .sub .f32 a b) := by
  have e : R.bin .sub .f32 a b = (((FloatKind.f32.format.read a).sum (FloatKind.f32.format.read b).opposite).map FloatKind.f32.format.write).getD (nanOf .f32) := rfl
  rw [e]
  rcases not_nm h with h | ⟨s, h⟩
  · obtain ⟨s, t, hr⟩ := nan_word h
    rw [hr]
    cases FloatKind.f32.format.read a <;> exact nan_far
  · rw [h]
    cases FloatKind.f32.format.read a with
    | nan _ _ => exact nan_far
    | number _ _ _ => exact inf_far _
    | infinity s' =>
      show ¬ Nm .f32 (Option.getD (Option.map _ (if s' = !s then some (Datum.infinity s') else none)) _)
      by_cases hs : s' = !s
      · rw [if_pos hs]; exact inf_far _
      · rw [if_neg hs]; exact nan_far
theorem sine_far {a : Nat} (h : ¬ Nm .f32 a) : p_spec_l01Sine R a = nanOf .f32 := by
  rw [← sine_eq, impl_sineW]
  unfold sineW
  rw [decide_eq_false (wid_not_nm h), Bool.not_false, cond_true, nar_nan']

theorem eta3 (x : Nat × Nat × Bool) : (x.fst, x.snd.fst, x.snd.snd) = x := rfl
theorem fin_not {a : Nat} (h : p_spec_l01Finite R a = false) : ¬ Nm .f32 a := by rw [fin_spec] at h; exact of_decide_eq_false h
theorem number3_far {x : Nat} (y : Nat) (h : ¬ Nm .f32 x) : p_spec_l03Number R x y = (0, 0, false) := by
  unfold p_spec_l03Number p_spec_l01CFinite
  rw [fin_spec, decide_eq_false h, cond_false, Bool.not_false, cond_true]
theorem number3_eq (x y : Nat) : p_impl_finitePoint R x y true = p_spec_l03Number R x y := by
  unfold p_impl_finitePoint p_spec_l03Number p_impl_IsFiniteComplex p_spec_l01CFinite
  rw [fin_same, fin_same]; rfl
theorem point_false (x y : Nat) : p_impl_finitePoint R x y false = (0, 0, false) := rfl
theorem map_eq (k : Int) (a b f : Nat) : p_impl_ValidMap R k a b f = p_spec_l03Is R k a b f := by
  unfold p_impl_ValidMap p_spec_l03Is p_impl_within p_spec_l00In p_impl_inside
  rw [place_eq]

theorem apartOf_eq {a b c d : Nat} (h1 : p_impl_ValidPlace R a b = true) (h2 : p_impl_ValidPlace R c d = true) : p_impl_ApartOf R a b c d = p_spec_l02Number R (p_spec_l02Apart R a b c d) := by
  unfold p_impl_ApartOf c0_impl_ApartOf
  rw [h1, h2, apart_eq]
  show ((p_impl_finite R (p_spec_l02Apart R a b c d) true).fst, (p_impl_finite R (p_spec_l02Apart R a b c d) true).snd) = _
  rw [number_eq]
theorem courseTo_eq {a b c d : Nat} (h1 : p_impl_ValidPlace R a b = true) (h2 : p_impl_ValidPlace R c d = true) : p_impl_CourseTo R a b c d = p_spec_l02Number R (p_spec_l02Course R a b c d) := by
  unfold p_impl_CourseTo c0_impl_CourseTo
  rw [h1, h2, course_eq]
  show ((p_impl_finite R (p_spec_l02Course R a b c d) true).fst, (p_impl_finite R (p_spec_l02Course R a b c d) true).snd) = _
  rw [number_eq]
theorem number_no {x : Nat} (h : p_spec_l01Finite R x = false) : p_spec_l02Number R x = (0, false) := by unfold p_spec_l02Number; rw [h]; rfl
theorem number_yes {x : Nat} (h : p_spec_l01Finite R x = true) : p_spec_l02Number R x = (x, true) := by unfold p_spec_l02Number; rw [h]; rfl

/-- the way to a place of the round maps, as the reference tells it -/
noncomputable def farPoint (k : Int) (d a : Nat) : Nat × Nat × Bool :=
  bif k == 4 then (bif !R.cmp .leq .f32 d 1055286886 then (0, 0, false) else p_spec_l03Number R (p_spec_l01Scale R (p_spec_l01Phasor R (R.wid (R.bin .sub .f32 1048576000 a))).1 (p_spec_l01Phasor R (R.wid (R.bin .sub .f32 1048576000 a))).2 (R.bin .mul .f32 1073741824 (R.bin .quo .f32 (p_spec_l01Sine R (R.bin .mul .f32 1056964608 d)) (p_spec_l02Cosine R (R.bin .mul .f32 1056964608 d))))).1 (p_spec_l01Scale R (p_spec_l01Phasor R (R.wid (R.bin .sub .f32 1048576000 a))).1 (p_spec_l01Phasor R (R.wid (R.bin .sub .f32 1048576000 a))).2 (R.bin .mul .f32 1073741824 (R.bin .quo .f32 (p_spec_l01Sine R (R.bin .mul .f32 1056964608 d)) (p_spec_l02Cosine R (R.bin .mul .f32 1056964608 d))))).2)
  else bif k == 5 then p_spec_l03Number R (p_spec_l01Scale R (p_spec_l01Phasor R (R.wid (R.bin .sub .f32 1048576000 a))).1 (p_spec_l01Phasor R (R.wid (R.bin .sub .f32 1048576000 a))).2 (R.bin .mul .f32 1073741824 (p_spec_l01Sine R (R.bin .mul .f32 1056964608 d)))).1 (p_spec_l01Scale R (p_spec_l01Phasor R (R.wid (R.bin .sub .f32 1048576000 a))).1 (p_spec_l01Phasor R (R.wid (R.bin .sub .f32 1048576000 a))).2 (R.bin .mul .f32 1073741824 (p_spec_l01Sine R (R.bin .mul .f32 1056964608 d)))).2
  else p_spec_l03Number R (p_spec_l01Scale R (p_spec_l01Phasor R (R.wid (R.bin .sub .f32 1048576000 a))).1 (p_spec_l01Phasor R (R.wid (R.bin .sub .f32 1048576000 a))).2 (p_spec_l03Round R d)).1 (p_spec_l01Scale R (p_spec_l01Phasor R (R.wid (R.bin .sub .f32 1048576000 a))).1 (p_spec_l01Phasor R (R.wid (R.bin .sub .f32 1048576000 a))).2 (p_spec_l03Round R d)).2

/-- with a course that is none there is no point -/
theorem farPoint_course {k : Int} {d a : Nat} (h : ¬ Nm .f32 a) : farPoint k d a = (0, 0, false) := by
  have hp := (phasor_far (wid_not_nm (sub_far_r (a := 1048576000) h))).2.1
  have hs : ∀ r, p_spec_l03Number R (p_spec_l01Scale R (p_spec_l01Phasor R (R.wid (R.bin .sub .f32 1048576000 a))).1 (p_spec_l01Phasor R (R.wid (R.bin .sub .f32 1048576000 a))).2 r).1 (p_spec_l01Scale R (p_spec_l01Phasor R (R.wid (R.bin .sub .f32 1048576000 a))).1 (p_spec_l01Phasor R (R.wid (R.bin .sub .f32 1048576000 a))).2 r).2 = (0, 0, false) := by
    intro r
    rw [hp]
    unfold p_spec_l01Scale
    exact number3_far _ (by rw [mul_nan_l nanW]; exact nan_far)
  unfold farPoint
  rw [hs, hs, hs]
  cases k == 4 <;> cases k == 5 <;> cases R.cmp .leq .f32 d 1055286886 <;> rfl
/-- with a distance that is none there is no point -/
theorem farPoint_apart {k : Int} {d a : Nat} (h : ¬ Nm .f32 d) : farPoint k d a = (0, 0, false) := by
  have hs : ∀ r, ¬ Nm .f32 r → p_spec_l03Number R (p_spec_l01Scale R (p_spec_l01Phasor R (R.wid (R.bin .sub .f32 1048576000 a))).1 (p_spec_l01Phasor R (R.wid (R.bin .sub .f32 1048576000 a))).2 r).1 (p_spec_l01Scale R (p_spec_l01Phasor R (R.wid (R.bin .sub .f32 1048576000 a))).1 (p_spec_l01Phasor R (R.wid (R.bin .sub .f32 1048576000 a))).2 r).2 = (0, 0, false) := by
    intro r hr
    unfold p_spec_l01Scale
    exact number3_far _ (mul_far_r hr)
  have h1 : p_spec_l01Sine R (R.bin .mul .f32 1056964608 d) = nanOf .f32 := sine_far (mul_far_r h)
  unfold farPoint
  rw [h1, hs (p_spec_l03Round R d) (mul_far_r h), quo_nan_l nanW, mul_nan_r nanW, hs _ nan_far]
  cases k == 4 <;> cases k == 5 <;> cases R.cmp .leq .f32 d 1055286886 <;> rfl

theorem half_eq' (d : Nat) : R.bin .quo .f32 d 1073741824 = R.bin .mul .f32 1056964608 d := half_eq d

theorem far_spec (k : Int) (a b f c d : Nat) (h0 : (k == 0) = false) (h1 : (k == 1) = false) (h2 : (k == 2) = false) (h3 : (k == 3) = false) : p_spec_l03Point R k a b f c d = farPoint k (p_spec_l02Apart R a b c d) (p_spec_l02Course R a b c d) := by
  unfold p_spec_l03Point farPoint
  simp only [h0, h1, h2, h3, cond_false, eta3, c18_spec_l03Point, c17_spec_l03Point, c16_spec_l03Point, c15_spec_l03Point, c14_spec_l03Point, c13_spec_l03Point, c12_spec_l03Point, c11_spec_l03Point, c10_spec_l03Point, c9_spec_l03Point, c8_spec_l03Point]

theorem far_impl {k : Int} {a b f c d : Nat} (v1 : p_impl_ValidPlace R a b = true) (v2 : p_impl_ValidPlace R c d = true) (h0 : (k == 0) = false) (h1 : (k == 1) = false) (h2 : (k == 2) = false) (h3 : (k == 3) = false) : p_impl_Map_point R k a b f c d = farPoint k (p_spec_l02Apart R a b c d) (p_spec_l02Course R a b c d) := by
  have key : p_impl_Map_point R k a b f c d = bif (c10_impl_Map_point R k a b f c d).snd then (bif (c8_impl_Map_point R k a b f c d).snd then c14_impl_Map_point R k a b f c d else c15_impl_Map_point R k a b f c d) else c15_impl_Map_point R k a b f c d := by
    unfold p_impl_Map_point
    simp only [h0, h1, h2, h3, cond_false, eta3]
  rw [key]
  have e15 : c15_impl_Map_point R k a b f c d = (0, 0, false) := rfl
  rw [e15]
  have e10 : c10_impl_Map_point R k a b f c d = p_spec_l02Number R (p_spec_l02Apart R a b c d) := apartOf_eq v1 v2
  have e8 : c8_impl_Map_point R k a b f c d = p_spec_l02Number R (p_spec_l02Course R a b c d) := courseTo_eq v1 v2
  unfold c14_impl_Map_point c13_impl_Map_point c12_impl_Map_point c11_impl_Map_point c9_impl_Map_point
  rw [e10, e8]
  generalize p_spec_l02Apart R a b c d = D
  generalize p_spec_l02Course R a b c d = A
  cases hd : p_spec_l01Finite R D
  · rw [number_no hd, farPoint_apart (fin_not hd)]; rfl
  · rw [number_yes hd]
    cases ha : p_spec_l01Finite R A
    · rw [number_no ha, farPoint_course (fin_not ha)]; rfl
    · rw [number_yes ha]
      simp only [cond_true]
      rw [(phasor_eq _).1]
      unfold p_impl_Map_ring c1_impl_Map_ring c0_impl_Map_ring farPoint
      rw [half_eq', sine_eq, cos_eq]
      cases h4 : k == 4
      · cases h5 : k == 5
        · simp only [cond_false]
          rw [number3_eq]; rfl
        · simp only [cond_false, cond_true]
          rw [number3_eq]; rfl
      · simp only [cond_true]
        cases hl : R.cmp .leq .f32 D 1055286886
        · rw [point_false]; rfl
        · rw [number3_eq]; rfl

theorem point_eq {k : Int} {a b f c d : Nat} (v1 : p_impl_ValidPlace R a b = true) (v2 : p_impl_ValidPlace R c d = true) : p_impl_Map_point R k a b f c d = p_spec_l03Point R k a b f c d := by
  cases h0 : k == 0
  · cases h1 : k == 1
    · cases h2 : k == 2
      · cases h3 : k == 3
        · rw [far_impl v1 v2 h0 h1 h2 h3, far_spec k a b f c d h0 h1 h2 h3]
        · unfold p_impl_Map_point p_spec_l03Point c7_impl_Map_point c7_spec_l03Point c2_impl_Map_point c2_spec_l03Point c0_impl_Map_point c0_spec_l03Point p_spec_l03Round
          rw [h0, h1, h2, h3, number3_eq, wrap_eq, cos_eq]
          simp only [cond_false, cond_true]
      · unfold p_impl_Map_point p_spec_l03Point c6_impl_Map_point c6_spec_l03Point c0_impl_Map_point c0_spec_l03Point c1_impl_Map_point c1_spec_l03Point p_spec_l03Round
        rw [h0, h1, h2, number3_eq, wrap_eq, cos_eq, sine_eq]
        simp only [cond_false, cond_true]
    · unfold p_impl_Map_point p_spec_l03Point c5_impl_Map_point c5_spec_l03Point c4_impl_Map_point c4_spec_l03Point c0_impl_Map_point c0_spec_l03Point p_spec_l03Round
      rw [h0, h1, wrap_eq, north_eq]
      cases hs : (p_spec_l02Stretch R c).snd
      · simp only [cond_false, cond_true, Bool.not_false, point_false]
      · simp only [cond_false, cond_true, Bool.not_true, number3_eq]
  · unfold p_impl_Map_point p_spec_l03Point c3_impl_Map_point c3_spec_l03Point c2_impl_Map_point c2_spec_l03Point c0_impl_Map_point c0_spec_l03Point c1_impl_Map_point c1_spec_l03Point p_spec_l03Round
    rw [h0, number3_eq, wrap_eq, cos_eq]
    simp only [cond_true]

theorem point_impl_ok (k : Int) (a b f c d : Nat) : r_impl_Map_point R k a b f c d = true := by
  unfold r_impl_Map_point
  rw [north_ok, (phasor_eq _).2.1]
  cases k == 0 <;> cases k == 1 <;> cases k == 2 <;> cases k == 3 <;> rfl
theorem point_spec_ok (k : Int) (a b f c d : Nat) : r_spec_l03Point R k a b f c d = true := by
  unfold r_spec_l03Point
  rw [spec_ok, (phasor_eq _).2.2]
  cases k == 0 <;> cases k == 1 <;> cases k == 2 <;> cases k == 3 <;> cases k == 4 <;> cases k == 5 <;> cases R.cmp .leq .f32 (c8_spec_l03Point R k a b f c d) 1055286886 <;> rfl

theorem valid_mid {k : Int} {a b f : Nat} (h : p_spec_l03Is R k a b f = true) : p_impl_ValidPlace R a b = true := by
  rw [place_eq]
  unfold p_spec_l03Is at h
  cases hp : p_spec_l02Is R a b
  · rw [hp] at h
    cases hk : p_spec_l00In R k 0 6 <;> rw [hk] at h <;> cases h
  · rfl

theorem pointOf_eq (k : Int) (a b f c d : Nat) : p_impl_PointOf R k a b f c d = p_spec_PointOf R k a b f c d := by
  unfold p_impl_PointOf p_spec_PointOf c0_impl_PointOf c0_spec_PointOf
  rw [map_eq]
  cases hm : p_spec_l03Is R k a b f
  · rfl
  · cases hp : p_impl_ValidPlace R c d
    · rw [place_eq] at hp; rw [hp]; simp only [Bool.not_false, Bool.not_true, cond_true, cond_false]
    · rw [point_eq (valid_mid hm) hp]
      rw [place_eq] at hp; rw [hp]
theorem pointOf_ok (k : Int) (a b f c d : Nat) : r_impl_PointOf R k a b f c d = true ∧ r_spec_PointOf R k a b f c d = true := by
  unfold r_impl_PointOf r_spec_PointOf
  rw [point_impl_ok, point_spec_ok]
  cases p_impl_ValidMap R k a b f <;> cases p_impl_ValidPlace R c d <;> cases p_spec_l03Is R k a b f <;> cases p_spec_l02Is R c d <;> exact ⟨rfl, rfl⟩

theorem sameComplex_refl (x y : Nat) : p_laws_sameComplex R x y x y = true := by
  unfold p_laws_sameComplex
  rw [sameFloat_refl, sameFloat_refl]; rfl
end Go.Dv

/- Mixed points, steps and the scales of areas: both texts are the same. -/
namespace Go.Dv
open Go.Cv
open Ieee

/-! ### mixtures -/
theorem pointOf_yes {k : Int} {a b f c d : Nat} (h : p_spec_l03Is R k a b f = true) (h2 : p_spec_l02Is R c d = true) : p_spec_PointOf R k a b f c d = p_spec_l03Point R k a b f c d := by unfold p_spec_PointOf; rw [h, h2]; rfl

/-! ### steps -/
end Go.Dv
