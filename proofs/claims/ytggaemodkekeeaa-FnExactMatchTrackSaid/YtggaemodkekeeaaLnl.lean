/- Angles that do not lie below are not below nought; how far places are apart. -/
/- How far valid places are apart: a number between 0 and 1; how much a place is missed by. -/
import Derived.Test.YtggaemodkekeeaaLnk
import Derived.Test.YtggaemodkekeeaaLlf
import Derived.Test.YtggaemodkekeeaaLc

set_option linter.unusedSimpArgs false
set_option linter.unusedVariables false
namespace Go.Dv
open Go.Cv
open Ieee

theorem c125 : Nm .f64 4608308318706860032 ∧ fv .f64 4608308318706860032 = 5 / 4 := ⟨⟨_, _, _, rfl⟩, by decide +kernel⟩
theorem c532 : Nm .f64 4594797519824748544 ∧ fv .f64 4594797519824748544 = 5 / 32 := ⟨⟨_, _, _, rfl⟩, by decide +kernel⟩
theorem turn_six : 6 ≤ fv .f64 4618760256179416344 := by decide +kernel

theorem angCore_quart {t : Nat} (h : Un t) : Nm .f64 (angCore R t) ∧ 0 ≤ fv .f64 (angCore R t) ∧ fv .f64 (angCore R t) ≤ 1 / 4 := by
  have u1 := un_step h
  have u2 := un_step u1
  have u3 := un_step u2
  have e1 := half_step h (E := 0) (by rw [p2_zero]; exact h.2.2) (by decide) (by decide)
  have e2 := half_step u1 e1 (by decide) (by decide)
  have e3 := half_step u2 e2 (by decide) (by decide)
  unfold angCore
  generalize angStep R (angStep R (angStep R t)) = w at *
  have bw : Bd w (-3) := ⟨u3.1, e3, by have := p2_nonneg (-3); have := u3.2.1; grind⟩
  have bu := bd_mul bw bw (by decide) (by decide)
  unfold angOf3 angPoly8
  obtain ⟨p1, hp1, hp⟩ := angPoly_last bu 7 (by decide) 0 (bd_mono bd_zero (by decide))
  rw [hp]
  have bx := bd_mul bu hp1 (by decide) (by decide)
  have p5 : p2 (-3 + -3 + 1) = 1 / 32 := by decide +kernel
  have hs := rd_sub bd_one.1 bx.1
  have hc := rc_sub bd_one.1 bx.1
  rw [fv_one] at hs hc
  have x1 := bx.2.1; have x2 := bx.2.2
  rw [p5] at x1 x2
  obtain ⟨hNs, s1, _⟩ := hs.le 1 (by decide) (by decide) (by rw [p2_one]; grind) (by rw [p2_one]; grind)
  have s0 := hs.pos (by grind) hNs
  have s2 := hc.le _ c125.1 hNs (by rw [c125.2]; grind)
  rw [c125.2] at s2
  generalize R.bin .sub .f64 4607182418800017408 (R.bin .mul .f64 (R.bin .mul .f64 w w) p1) = P at *
  have bP : Bd P 1 := ⟨hNs, s1, by have := p2_nonneg 1; grind⟩
  have b1 := bd_mul bw bP (by decide) (by decide)
  have n1 := (rd_mul bw.1 bP.1).pos (Rat.mul_nonneg u3.2.1 s0) b1.1
  have p3 : p2 (-1 - 1 - 1) = 1 / 8 := by decide +kernel
  have e3' : fv .f64 w ≤ 1 / 8 := by rw [← p3]; exact e3
  have m1 : fv .f64 w * fv .f64 P ≤ 5 / 32 := by
    have q1 : fv .f64 w * fv .f64 P ≤ (1 / 8) * fv .f64 P := Rat.mul_le_mul_of_nonneg_right e3' s0
    grind
  have m2 := (rc_mul bw.1 bP.1).le _ c532.1 b1.1 (by rw [c532.2]; exact m1)
  rw [c532.2] at m2
  generalize R.bin .mul .f64 w P = Q at *
  have b2 := bd_mul bd_eight b1 (by decide) (by decide)
  have v8 : fv .f64 4620693217682128896 = 8 := by decide +kernel
  have n2 := (rd_mul bd_eight.1 b1.1).pos (Rat.mul_nonneg (by rw [v8]; decide) n1) b2.1
  have m3 := (rc_mul bd_eight.1 b1.1).le _ c125.1 b2.1 (by rw [c125.2, v8]; grind)
  rw [c125.2] at m3
  generalize R.bin .mul .f64 4620693217682128896 Q = Z at *
  have b3 := bd_quo b2 bd_turn.1 turn_ge (by decide) (by decide)
  have ht := turn_six
  have hq0 : fv .f64 4618760256179416344 ≠ 0 := by grind
  have hq := rd_quo b2.1 bd_turn.1 hq0
  have n3 := hq.pos (by rw [Rat.div_def]; exact Rat.mul_nonneg n2 (Rat.le_of_lt (Rat.inv_pos.2 (by grind)))) b3.1
  have m4 : fv .f64 Z / fv .f64 4618760256179416344 ≤ 1 / 4 := by
    have hc := Rat.div_mul_cancel (a := fv .f64 Z) hq0
    refine Rat.not_lt.1 fun hlt => ?_
    have := Rat.mul_le_mul_of_nonneg_right (Rat.le_of_lt hlt) (show 0 ≤ fv .f64 4618760256179416344 by grind)
    rw [hc] at this
    grind
  obtain ⟨_, m5, _⟩ := hq.le (-2) (by decide) (by decide) (by rw [p2_m2]; exact m4) (by rw [p2_m2]; have : 0 ≤ fv .f64 Z / fv .f64 4618760256179416344 := by { rw [Rat.div_def]; exact Rat.mul_nonneg n2 (Rat.le_of_lt (Rat.inv_pos.2 (by grind))) }; grind)
  rw [p2_m2] at m5
  exact ⟨b3.1, n3, m5⟩
end Go.Dv


set_option linter.unusedSimpArgs false
set_option linter.unusedVariables false
namespace Go.Dv
open Go.Cv
open Ieee

theorem angTail_up0 {a b : Nat} (xn : Bool) (ha : Nm .f64 a) (hb : Nm .f64 b) (h0 : 0 ≤ fv .f64 a) (h1 : 0 ≤ fv .f64 b) (hne : ¬ (fv .f64 a = 0 ∧ fv .f64 b = 0)) :
    Nm .f64 (angTail R a b xn false) ∧ 0 ≤ fv .f64 (angTail R a b xn false) ∧ fv .f64 (angTail R a b xn false) ≤ 1 := by
  unfold angTail
  simp only [cond_false]
  rw [gtr_nm ha hb]
  have hq : ∃ g, (bif decide (fv .f64 b < fv .f64 a) then R.bin .sub .f64 4598175219545276416 (angCore R (bif decide (fv .f64 b < fv .f64 a) then R.bin .quo .f64 b a else R.bin .quo .f64 a b)) else angCore R (bif decide (fv .f64 b < fv .f64 a) then R.bin .quo .f64 b a else R.bin .quo .f64 a b)) = g ∧ Nm .f64 g ∧ 0 ≤ fv .f64 g ∧ fv .f64 g ≤ 1 / 4 := by
    refine ⟨_, rfl, ?_⟩
    by_cases hc : fv .f64 b < fv .f64 a
    · rw [decide_eq_true hc]
      simp only [cond_true]
      obtain ⟨c1, c2, c3⟩ := angCore_quart (un_quo hb ha h1 (by grind) (by grind))
      have hr := rd_sub bd_quart.1 c1
      rw [fv_q64] at hr
      obtain ⟨k1, k2, k3⟩ := hr.le (-2) (by decide) (by decide) (by rw [p2_m2]; grind) (by rw [p2_m2]; grind)
      rw [p2_m2] at k2 k3
      exact ⟨k1, hr.pos (by grind) k1, k2⟩
    · rw [decide_eq_false hc]
      simp only [cond_false]
      exact angCore_quart (un_quo ha hb h0 (by grind) (by grind))
  obtain ⟨g, hg, g1, g2, g3⟩ := hq
  rw [hg]
  cases xn
  · exact ⟨g1, g2, by rw [cond_false]; grind⟩
  · rw [cond_true]
    have hr := rd_sub bd_half.1 g1
    rw [fv_half] at hr
    obtain ⟨k1, k2, k3⟩ := hr.le 0 (by decide) (by decide) (by rw [p2_zero]; grind) (by rw [p2_zero]; grind)
    rw [p2_zero] at k2
    exact ⟨k1, hr.pos (by grind) k1, k2⟩

theorem nar_up0 {y : Nat} (h : Nm .f64 y) (h1 : 0 ≤ fv .f64 y) (h2 : fv .f64 y ≤ 1) : Nm .f32 (R.nar y) ∧ 0 ≤ fv .f32 (R.nar y) ∧ fv .f32 (R.nar y) ≤ 1 := by
  have hb : Bd y 0 := ⟨h, by rw [p2_zero]; exact h2, by rw [p2_zero]; grind⟩
  have hbk := bk_nar hb (by decide) (by decide)
  have hk := bd_narOk hb (by decide)
  obtain ⟨s, m, e, hr⟩ := h
  have hN := hbk.1
  have hl := hbk.2.1
  rw [p2_zero] at hl
  refine ⟨hN, ?_, hl⟩
  have hf := nar_form hr hk
  rw [hf] at hN ⊢
  have hv : fv .f64 y = vd (.number s m e) := by unfold fv; rw [hr]
  exact (rd_nearest .f32 s m e).pos (by rw [← hv]; exact h1) hN

theorem angle_up0 {y x : Nat} (ny : Nm .f32 y) (nx : Nm .f32 x) (hy : R.cmp .lss .f32 y 0 = false) : Nm .f32 (p_impl_AngleTurns R y x) ∧ 0 ≤ fv .f32 (p_impl_AngleTurns R y x) ∧ fv .f32 (p_impl_AngleTurns R y x) ≤ 1 := by
  unfold p_impl_AngleTurns p_impl_AngleWide angFin
  rw [fin_wide, fin_wide]
  have wy := wid_nm ny
  have wx := wid_nm nx
  rw [decide_eq_true ny, decide_eq_true nx, hy]
  simp only [Bool.and_self, cond_true]
  cases hz : (bif R.cmp .eql .f32 x 0 then R.cmp .eql .f32 y 0 else false)
  · simp only [cond_false]
    have hne : ¬ (fv .f64 (R.abs (R.wid y)) = 0 ∧ fv .f64 (R.abs (R.wid x)) = 0) := by
      intro ⟨e1, e2⟩
      have a1 := (abs_nm wy.1).2.2
      have a2 := (abs_nm wx.1).2.2
      have e3 : fv .f32 y = 0 := by rw [← wy.2]; grind
      have e4 : fv .f32 x = 0 := by rw [← wx.2]; grind
      rw [eql_nm nx nm32_zero, eql_nm ny nm32_zero, e3, e4, fv32_zero] at hz
      simp at hz
    obtain ⟨t1, t2, t3⟩ := angTail_up0 (R.cmp .lss .f32 x 0) (abs_nm wy.1).1 (abs_nm wx.1).1 (abs_nm wy.1).2.1 (abs_nm wx.1).2.1 hne
    exact nar_up0 t1 t2 t3
  · simp only [cond_true]
    exact ⟨nm32_zero, by rw [fv32_zero]; exact Rat.le_refl, by rw [fv32_zero]; decide +kernel⟩

theorem way_bk {a b : Nat} (h : p_impl_ValidPlace R a b = true) : ∃ x y z, p_spec_l02Way R a b = (x, y, z) ∧ Bk .f32 x 2 ∧ Bk .f32 y 2 ∧ Bk .f32 z 2 := by
  obtain ⟨a1, a2, a3, b1, b2, b3⟩ := place_in h
  have ca := cos_two (add_q_nm a1 (by grind) (by grind))
  have cb := cos_two (add_q_nm b1 (by grind) (by grind))
  exact ⟨_, _, _, rfl, bk_mul ca cb (by decide) (by decide), bk_mul ca (sine_two b1) (by decide) (by decide), bk_mono (sine_two a1) (by decide)⟩

theorem sq_bk {a : Nat} {E : Int} (h : Bk .f32 a E) (h1 : loP .f32 ≤ E + E) (h2 : E + E ≤ hiP .f32) : Bk .f32 (R.bin .mul .f32 a a) (E + E) ∧ 0 ≤ fv .f32 (R.bin .mul .f32 a a) := by
  have hb := bk_mul h h h1 h2
  refine ⟨hb, (rd_mul h.1 h.1).pos ?_ hb.1⟩
  rcases (Rat.le_total (a := 0) (b := fv .f32 a)) with c | c
  · exact Rat.mul_nonneg c c
  · have := Rat.mul_nonneg (show 0 ≤ -(fv .f32 a) by grind) (show 0 ≤ -(fv .f32 a) by grind)
    grind
theorem add_bk0 {a b : Nat} {E : Int} (ha : Bk .f32 a E) (hb : Bk .f32 b E) (h1 : loP .f32 ≤ E + 1) (h2 : E + 1 ≤ hiP .f32) (ha0 : 0 ≤ fv .f32 a) (hb0 : 0 ≤ fv .f32 b) : Bk .f32 (R.bin .add .f32 a b) (E + 1) ∧ 0 ≤ fv .f32 (R.bin .add .f32 a b) := by
  have h := bk_add ha hb h1 h2
  exact ⟨h, (rd_add ha.1 hb.1).pos (by grind) h.1⟩

theorem apart_nm {a b c d : Nat} (h1 : p_impl_ValidPlace R a b = true) (h2 : p_impl_ValidPlace R c d = true) : Nm .f32 (p_spec_l02Apart R a b c d) ∧ 0 ≤ fv .f32 (p_spec_l02Apart R a b c d) ∧ fv .f32 (p_spec_l02Apart R a b c d) ≤ 1 := by
  obtain ⟨x, y, z, e1, x1, y1, z1⟩ := way_bk h1
  obtain ⟨u, v, w, e2, u1, v1, w1⟩ := way_bk h2
  unfold p_spec_l02Apart c0_spec_l02Apart c1_spec_l02Apart c2_spec_l02Apart c0_spec_l02Apart c1_spec_l02Apart
  rw [e1, e2, ← ang_eq]
  have dot : Bk .f32 (p_spec_l02Dot R x y z u v w) 6 := bk_add (bk_add (bk_mul x1 u1 (by decide) (by decide)) (bk_mul y1 v1 (by decide) (by decide)) (by decide) (by decide)) (bk_mono (bk_mul z1 w1 (by decide) (by decide)) (by decide)) (by decide) (by decide)
  have c1 := bk_sub (bk_mul y1 w1 (by decide) (by decide)) (bk_mul z1 v1 (by decide) (by decide)) (by decide) (by decide)
  have c2 := bk_sub (bk_mul z1 u1 (by decide) (by decide)) (bk_mul x1 w1 (by decide) (by decide)) (by decide) (by decide)
  have c3 := bk_sub (bk_mul x1 v1 (by decide) (by decide)) (bk_mul y1 u1 (by decide) (by decide)) (by decide) (by decide)
  have ec : p_spec_l02Cross R x y z u v w = (R.bin .sub .f32 (R.bin .mul .f32 y w) (R.bin .mul .f32 z v), R.bin .sub .f32 (R.bin .mul .f32 z u) (R.bin .mul .f32 x w), R.bin .sub .f32 (R.bin .mul .f32 x v) (R.bin .mul .f32 y u)) := rfl
  show Nm .f32 (p_impl_AngleTurns R (p_spec_l02Long R (p_spec_l02Cross R x y z u v w).1 (p_spec_l02Cross R x y z u v w).2.1 (p_spec_l02Cross R x y z u v w).2.2) (p_spec_l02Dot R x y z u v w)) ∧ 0 ≤ fv .f32 (p_impl_AngleTurns R (p_spec_l02Long R (p_spec_l02Cross R x y z u v w).1 (p_spec_l02Cross R x y z u v w).2.1 (p_spec_l02Cross R x y z u v w).2.2) (p_spec_l02Dot R x y z u v w)) ∧ fv .f32 (p_impl_AngleTurns R (p_spec_l02Long R (p_spec_l02Cross R x y z u v w).1 (p_spec_l02Cross R x y z u v w).2.1 (p_spec_l02Cross R x y z u v w).2.2) (p_spec_l02Dot R x y z u v w)) ≤ 1
  rw [ec]
  dsimp only
  generalize R.bin .sub .f32 (R.bin .mul .f32 y w) (R.bin .mul .f32 z v) = p at *
  generalize R.bin .sub .f32 (R.bin .mul .f32 z u) (R.bin .mul .f32 x w) = q at *
  generalize R.bin .sub .f32 (R.bin .mul .f32 x v) (R.bin .mul .f32 y u) = r at *
  obtain ⟨p1, p0⟩ := sq_bk c1 (by decide) (by decide)
  obtain ⟨q1, q0⟩ := sq_bk c2 (by decide) (by decide)
  obtain ⟨r1, r0⟩ := sq_bk c3 (by decide) (by decide)
  obtain ⟨s1, s0⟩ := add_bk0 p1 q1 (by decide) (by decide) p0 q0
  obtain ⟨t1, t0⟩ := add_bk0 s1 (bk_mono r1 (by decide)) (by decide) (by decide) s0 r0
  have wt := wid_nm t1.1
  have t2 : fv .f64 (R.wid (R.bin .add .f32 (R.bin .add .f32 (R.bin .mul .f32 p p) (R.bin .mul .f32 q q)) (R.bin .mul .f32 r r))) ≤ p2 (2 * 6) := by rw [wt.2]; exact t1.2.1
  obtain ⟨k1, k2, k3⟩ := sqrt_nm wt.1 (by rw [wt.2]; exact t0) t2 (by decide) (by decide)
  have hb : Bd (R.sqrt (R.wid (R.bin .add .f32 (R.bin .add .f32 (R.bin .mul .f32 p p) (R.bin .mul .f32 q q)) (R.bin .mul .f32 r r)))) 6 := ⟨k1, k3, by have := p2_nonneg 6; grind⟩
  exact angle_up0 (bk_nar hb (by decide) (by decide)).1 dot.1 (root_not_neg _)

/-- the floor of a number of up to 65537 -/
theorem floor_65 {r : Nat} (h : Nm .f32 r) (h0 : 0 ≤ fv .f32 r) (h1 : fv .f32 r ≤ 65537) : ∃ K : Nat, K ≤ 65537 ∧ Wh .f64 (R.floor (R.wid r)) (K : Int) ∧ Wh .f32 (R.nar (R.floor (R.wid r))) (K : Int) := by
  obtain ⟨hw, hv⟩ := wid_nm h
  obtain ⟨s, m1, e1, hx⟩ := hw
  have hn : isNan .f64 (R.wid r) = false := nm_not_nan ⟨_, _, _, hx⟩
  have hf : R.floor (R.wid r) = FloatKind.f64.format.nearest s (Toward.down.cut s (m1 <<< e1.toNat) (-e1).toNat) 0 := by
    show ffloor .down (R.wid r) = _
    unfold ffloor
    rw [hn, decode_eq, hx]
    rw [if_neg (by decide)]
    unfold FloatKind.encode Datum.integral
    simp only [Format.write]
  have hvr : fv .f32 r = vd (.number s m1 e1) := by rw [← hv]; unfold fv; rw [hx]
  have hg := mg_nonneg m1 e1
  have hm4 : mg m1 e1 ≤ mg 65537 0 := by
    rw [mg_nat0]
    have h4 : ((65537 : Nat) : Rat) = 65537 := rfl
    rw [h4]
    rw [hvr] at h0 h1
    cases s <;> simp only [vd_true, vd_false] at h0 h1 <;> grind
  have hK : Toward.down.cut s (m1 <<< e1.toNat) (-e1).toNat ≤ 65537 := cut_down_le _ _ _ _ ((units_le _ _ _).1 hm4)
  have hz : s = true → Toward.down.cut s (m1 <<< e1.toNat) (-e1).toNat = 0 := by
    intro hs; subst hs
    have hm0 : mg m1 e1 ≤ mg 0 0 := by
      rw [mg_zero]
      rw [hvr, vd_true] at h0
      grind
    have := cut_down_le _ _ 0 true ((units_le _ _ _).1 hm0)
    omega
  generalize Toward.down.cut s (m1 <<< e1.toNat) (-e1).toNat = K at *
  have hval : vd (.number s K 0) = ((K : Int) : Rat) := by
    rw [Rat.intCast_natCast]
    cases s
    · rw [vd_false, mg_nat0]
    · rw [hz rfl, vd_true, mg_zero]; rfl
  have w64 : Wh .f64 (R.floor (R.wid r)) (K : Int) := by rw [hf]; exact nearest_wh .f64 _ _ _ _ hval (sml64 (by omega))
  refine ⟨K, hK, w64, ?_⟩
  have hb : Bd (R.floor (R.wid r)) 20 := by
    have e20 : p2 20 = 1048576 := by decide +kernel
    have hc : ((K : Int) : Rat) = (K : Rat) := Rat.intCast_natCast K
    have hk1 : (K : Rat) ≤ ((65537 : Nat) : Rat) := Rat.natCast_le_natCast.2 hK
    have hk0 := nat_nonneg K
    have hk2 : ((65537 : Nat) : Rat) = 65537 := rfl
    exact ⟨w64.1, by rw [w64.2, e20, hc]; grind, by rw [w64.2, e20, hc]; grind⟩
  have hk := bd_narOk hb (by decide)
  obtain ⟨⟨s', m', e', hr⟩, hv'⟩ := w64
  rw [nar_form hr hk]
  unfold fv at hv'; rw [hr] at hv'
  exact nearest_wh .f32 _ _ _ _ hv' (sml32 (by omega))

theorem c65536 : Nm .f32 1199570944 ∧ fv .f32 1199570944 = 65536 := ⟨⟨_, _, _, rfl⟩, by decide +kernel⟩
theorem c65537 : Nm .f32 1199571072 ∧ fv .f32 1199571072 = 65537 := ⟨⟨_, _, _, rfl⟩, by decide +kernel⟩
theorem chalf : Nm .f32 1056964608 ∧ fv .f32 1056964608 = 1 / 2 := ⟨⟨_, _, _, rfl⟩, by decide +kernel⟩

theorem miss_ok {a b c d : Nat} (h1 : p_impl_ValidPlace R a b = true) (h2 : p_impl_ValidPlace R c d = true) :
    r_impl_missOf R a b c d = true ∧ r_spec_l07Off R a b c d = true ∧ p_spec_l07Off R a b c d = p_impl_missOf R a b c d ∧ 0 ≤ p_impl_missOf R a b c d ∧ p_impl_missOf R a b c d ≤ 70000 := by
  obtain ⟨n1, n2, n3⟩ := apart_nm h1 h2
  have hi : c0_impl_missOf R a b c d = R.nar (R.floor (R.wid (R.bin .add .f32 (R.bin .mul .f32 (p_impl_apart R a b c d) 1199570944) 1056964608))) := rfl
  have hs : c0_spec_l07Off R a b c d = R.floor (R.wid (R.bin .add .f32 (R.bin .mul .f32 (p_spec_l02Apart R a b c d) 1199570944) 1056964608)) := rfl
  rw [apart_eq] at hi
  generalize p_spec_l02Apart R a b c d = A at *
  have m0 : 0 ≤ fv .f32 A * fv .f32 1199570944 := Rat.mul_nonneg n2 (by rw [c65536.2]; decide +kernel)
  have e16 : p2 16 = 65536 := by decide +kernel
  have m1 : fv .f32 A * fv .f32 1199570944 ≤ 65536 := by rw [c65536.2]; grind
  obtain ⟨b1, b2, _⟩ := (rd_mul n1 c65536.1).le 16 (by decide) (by decide) (by rw [e16]; exact m1) (by rw [e16]; grind)
  have b0 := (rd_mul n1 c65536.1).pos m0 b1
  rw [e16] at b2
  generalize R.bin .mul .f32 A 1199570944 = B at *
  have e17 : p2 17 = 131072 := by decide +kernel
  have k1 := ((rd_add b1 chalf.1).le 17 (by decide) (by decide) (by rw [e17, chalf.2]; grind) (by rw [e17, chalf.2]; grind)).1
  have k0 := (rd_add b1 chalf.1).pos (by rw [chalf.2]; grind) k1
  have k2 := (rc_add b1 chalf.1).le _ c65537.1 k1 (by rw [c65537.2, chalf.2]; grind)
  rw [c65537.2] at k2
  generalize R.bin .add .f32 B 1056964608 = C at *
  obtain ⟨K, hK, w1, w2⟩ := floor_65 k1 k0 k2
  rw [← hs] at w1
  rw [← hi] at w2
  obtain ⟨t1, t2⟩ := wh_toi64 w1 (by omega)
  obtain ⟨u1, u2⟩ := wh_toi32 w2 (by omega)
  unfold r_impl_missOf r_spec_l07Off p_spec_l07Off p_impl_missOf
  rw [t1, t2, u1, u2]
  exact ⟨rfl, rfl, rfl, by omega, by omega⟩
end Go.Dv
