/- Lc, Ld, Lh: merged by merge.py. -/
import Derived.Test.YtbgpobiaaebbeaaGreatLv

/- Bounds: what the sines, logarithms, points and steps are no greater than. -/
namespace Go.Dv
open Go.Cv
open Ieee

/-! ### sines -/
theorem sinCore_two {f : Nat} (hf : Nm .f64 f) (h0 : 0 ≤ fv .f64 f) (h1 : fv .f64 f ≤ 1 / 4) : Bd (sinCore R f) 1 := by
  unfold sinCore
  have t1 := turn_lo
  have t2 := turn_hi
  have bt := bd_turn
  have p22 : p2 2 = 4 := by decide +kernel
  have l0 : 0 ≤ fv .f64 f * fv .f64 4618760256179416344 := Rat.mul_nonneg h0 (by grind)
  have l2 : fv .f64 f * fv .f64 4618760256179416344 ≤ 13 / 8 := by
    have a1 : fv .f64 f * fv .f64 4618760256179416344 ≤ (1 / 4) * fv .f64 4618760256179416344 := Rat.mul_le_mul_of_nonneg_right h1 (by grind)
    grind
  have hz := rd_mul hf bt.1
  obtain ⟨hN, _, _⟩ := hz.le 2 (by decide) (by decide) (by rw [p22]; grind) (by rw [p22]; grind)
  have z1 := hz.pos l0 hN
  have z2 := (rc_mul hf bt.1).le _ nm_13 hN (by rw [fv_13]; exact l2)
  rw [fv_13] at z2
  generalize R.bin .mul .f64 f 4618760256179416344 = z at *
  have m1 : fv .f64 z * fv .f64 z ≤ 3 := by
    have a1 : fv .f64 z * fv .f64 z ≤ fv .f64 z * (13 / 8) := Rat.mul_le_mul_of_nonneg_left z2 z1
    have a2 : fv .f64 z * (13 / 8) ≤ (13 / 8) * (13 / 8) := Rat.mul_le_mul_of_nonneg_right z2 (by decide +kernel)
    grind
  have m0 : 0 ≤ fv .f64 z * fv .f64 z := Rat.mul_nonneg z1 z1
  have hu := rd_mul hN hN
  obtain ⟨hNu, _, _⟩ := hu.le 2 (by decide) (by decide) (by rw [p22]; grind) (by rw [p22]; grind)
  have u3 := (rc_mul hN hN).le _ nm_three hNu (by rw [fv_three]; exact m1)
  rw [fv_three] at u3
  have u0 := hu.pos m0 hNu
  obtain ⟨hNp, p1, p3⟩ := sinPoly_half hNu u0 u3 8 (by decide) _ bd_one.1 (by rw [fv_one]; decide +kernel) (by rw [fv_one]; exact Rat.le_refl)
  generalize sinPoly R (R.bin .mul .f64 z z) 8 4607182418800017408 = p at *
  have o0 : 0 ≤ fv .f64 z * fv .f64 p := Rat.mul_nonneg z1 (by grind)
  have o2 : fv .f64 z * fv .f64 p ≤ 2 := by
    have a1 : fv .f64 z * fv .f64 p ≤ fv .f64 z * 1 := Rat.mul_le_mul_of_nonneg_left p3 z1
    grind
  exact (rd_mul hN hNp).le 1 (by decide) (by decide) (by rw [p2_one]; exact o2) (by rw [p2_one]; grind)

theorem sineTail_two {f : Nat} (h : Nm .f64 f) (h0 : 0 ≤ fv .f64 f) (h1 : fv .f64 f ≤ 1) : Bd (sineTail R f) 1 := by
  have hh : Nm .f64 (sinHalf R f) ∧ 0 ≤ fv .f64 (sinHalf R f) ∧ fv .f64 (sinHalf R f) ≤ 1 / 2 := by
    unfold sinHalf
    rw [geq_nm h bd_half.1, fv_half]
    by_cases hc : (1 / 2 : Rat) ≤ fv .f64 f
    · rw [decide_eq_true hc, cond_true]
      have hr := rd_sub h bd_half.1
      rw [fv_half] at hr
      obtain ⟨hN, hl, _⟩ := hr.le (-1) (by decide) (by decide) (by rw [p2_m1]; grind) (by rw [p2_m1]; grind)
      rw [p2_m1] at hl
      exact ⟨hN, hr.pos (by grind) hN, hl⟩
    · rw [decide_eq_false hc, cond_false]
      exact ⟨h, h0, by grind⟩
  have hq : Nm .f64 (sinQuarter R (sinHalf R f)) ∧ 0 ≤ fv .f64 (sinQuarter R (sinHalf R f)) ∧ fv .f64 (sinQuarter R (sinHalf R f)) ≤ 1 / 4 := by
    obtain ⟨a1, a2, a3⟩ := hh
    unfold sinQuarter
    rw [gtr_nm a1 bd_quart.1, fv_q64]
    by_cases hc : 1 / 4 < fv .f64 (sinHalf R f)
    · rw [decide_eq_true hc, cond_true]
      have hr := rd_sub bd_half.1 a1
      rw [fv_half] at hr
      obtain ⟨hN, hl, _⟩ := hr.le (-2) (by decide) (by decide) (by rw [p2_m2]; grind) (by rw [p2_m2]; grind)
      rw [p2_m2] at hl
      exact ⟨hN, hr.pos (by grind) hN, hl⟩
    · rw [decide_eq_false hc, cond_false]
      exact ⟨a1, a2, by grind⟩
  have hb := sinCore_two hq.1 hq.2.1 hq.2.2
  unfold sineTail
  cases R.cmp .geq .f64 f 4602678819172646912
  · exact hb
  · exact bd_neg hb

theorem impl_sine_two {y : Nat} (h : Nm .f64 y) (h0 : 0 ≤ fv .f64 y) (h1 : fv .f64 y ≤ 1) : Bd (p_impl_sine R y) 1 := by
  obtain ⟨s, m, e, hr⟩ := h
  have hg := mg_nonneg m e
  have p52 : (1 : Rat) < p2 52 := by decide +kernel
  have hm : mg m e ≤ p2 52 := by
    unfold fv at h0 h1; rw [hr] at h0 h1
    cases s <;> simp only [vd_true, vd_false] at h0 h1 <;> grind
  obtain ⟨f1, f2, f3⟩ := fraction_nm hr hm
  rw [← fraction_eq] at f1 f2 f3
  exact sineTail_two f1 f2 f3

/-- the sine of a number is at most two -/
theorem sine_two {a : Nat} (h : Nm .f32 a) : Bk .f32 (p_spec_l01Sine R a) 1 := by
  rw [← sine_eq, impl_sineW]
  have w := (wid_nm h).1
  unfold sineW
  rw [decide_eq_true w, Bool.not_true, cond_false]
  cases hc : R.cmp .geq .f64 (R.abs (R.wid a)) 4841369599423283200
  · rw [cond_false]
    obtain ⟨s, m, e, hr⟩ := w
    obtain ⟨f1, f2, f3⟩ := fraction_nm hr (small_mg hr hc)
    rw [← fraction_eq] at f1 f2 f3
    exact bk_nar (sineTail_two f1 f2 f3) (by decide) (by decide)
  · rw [cond_true, nar_zero]
    exact ⟨nm32_zero, by rw [fv32_zero]; exact p2_nonneg _, by rw [fv32_zero]; have := p2_nonneg 1; grind⟩
theorem cos_two {a : Nat} (h : Nm .f32 (R.bin .add .f32 a 1048576000)) : Bk .f32 (p_spec_l02Cosine R a) 1 := sine_two h

/-! ### phasors -/
theorem bk_one32 : Bk .f32 1065353216 0 := ⟨⟨_, _, _, rfl⟩, by decide +kernel, by decide +kernel⟩
theorem bk_zero32 (E : Int) : Bk .f32 0 E := ⟨nm32_zero, by rw [fv32_zero]; exact p2_nonneg _, by rw [fv32_zero]; have := p2_nonneg E; grind⟩
theorem phOf_two {f : Nat} (q : Int) (hS : Bd (p_impl_sine R f) 1) (hC : Bd (p_impl_sine R (R.bin .sub .f64 4598175219545276416 f)) 1) : Bk .f32 (phOf f q).1 2 ∧ Bk .f32 (phOf f q).2 2 := by
  have z := bd_mono bd_zero (show (0 : Int) ≤ 1 by decide)
  have a1 := bk_nar (bd_mono hS (show (1 : Int) ≤ 2 by decide)) (by decide) (by decide)
  have a2 := bk_nar (bd_mono hC (show (1 : Int) ≤ 2 by decide)) (by decide) (by decide)
  have a3 := bk_nar (bd_sub z hS (by decide) (by decide)) (by decide) (by decide)
  have a4 := bk_nar (bd_sub z hC (by decide) (by decide)) (by decide) (by decide)
  unfold phOf
  cases q == 1
  · cases q == 2
    · cases q == 3
      · exact ⟨a2, a1⟩
      · exact ⟨a1, a4⟩
    · exact ⟨a4, a3⟩
  · exact ⟨a3, a2⟩

theorem phasor_two {t : Nat} (h : Nm .f64 t) : Bk .f32 (p_spec_l01Phasor R t).1 2 ∧ Bk .f32 (p_spec_l01Phasor R t).2 2 := by
  cases hc : R.cmp .geq .f64 (R.abs t) 4841369599423283200
  · obtain ⟨f, q, Q, h1, h2, _⟩ := phasor_small h hc
    rw [h2]
    have hr := rd_sub bd_quart.1 Q.n
    rw [fv_q64] at hr
    have q0 := Q.lo; have q1 := Q.hi
    obtain ⟨b1, b2, _⟩ := hr.le 0 (by decide) (by decide) (by rw [p2_zero]; grind) (by rw [p2_zero]; grind)
    rw [p2_zero] at b2
    exact phOf_two q (impl_sine_two Q.n Q.lo (by grind)) (impl_sine_two b1 (hr.pos (by grind) b1) b2)
  · rw [(phasor_big h hc).2.1]
    exact ⟨bk_mono bk_one32 (by decide), bk_zero32 2⟩

/-! ### logarithms -/
theorem log_term0 {u q c : Nat} {E : Int} (hu : Bd u 0) (hq : Bd q E) (h0 : 0 ≤ E) (h1 : E ≤ 100) (hc : Nm .f64 c ∧ p2 0 ≤ fv .f64 c) : Bd (R.bin .add .f64 (R.bin .quo .f64 4607182418800017408 c) (R.bin .mul .f64 u q)) (E + 1) := by
  have a1 : Bd (R.bin .quo .f64 4607182418800017408 c) (0 - 0) := bd_quo bd_one hc.1 hc.2 (by decide) (by decide)
  have a2 : Bd (R.bin .mul .f64 u q) (0 + E) := bd_mul hu hq (by omega) (by omega)
  have := bd_add (bd_mono a1 (show (0 - 0 : Int) ≤ 0 + E by omega)) a2 (by omega) (by omega)
  rw [show E + 1 = 0 + E + 1 by omega]; exact this

theorem log_last15 {s : Nat} {e : Int} (hs : Bd s 0) (h1 : -300 ≤ e) (h2 : e ≤ 300) : Bd (R.bin BinOp.add FloatKind.f64 (R.bin BinOp.mul FloatKind.f64 4611686018427387904 (R.bin BinOp.mul FloatKind.f64 s (R.bin BinOp.add FloatKind.f64 (R.bin BinOp.quo FloatKind.f64 4607182418800017408 (R.ofi FloatKind.f64 (Int.ofNat 1))) (R.bin BinOp.mul FloatKind.f64 (R.bin BinOp.mul FloatKind.f64 s s) (R.bin BinOp.add FloatKind.f64 (R.bin BinOp.quo FloatKind.f64 4607182418800017408 (R.ofi FloatKind.f64 (Int.ofNat 3))) (R.bin BinOp.mul FloatKind.f64 (R.bin BinOp.mul FloatKind.f64 s s) (R.bin BinOp.add FloatKind.f64 (R.bin BinOp.quo FloatKind.f64 4607182418800017408 (R.ofi FloatKind.f64 (Int.ofNat 5))) (R.bin BinOp.mul FloatKind.f64 (R.bin BinOp.mul FloatKind.f64 s s) (R.bin BinOp.add FloatKind.f64 (R.bin BinOp.quo FloatKind.f64 4607182418800017408 (R.ofi FloatKind.f64 (Int.ofNat 7))) (R.bin BinOp.mul FloatKind.f64 (R.bin BinOp.mul FloatKind.f64 s s) (R.bin BinOp.add FloatKind.f64 (R.bin BinOp.quo FloatKind.f64 4607182418800017408 (R.ofi FloatKind.f64 (Int.ofNat 9))) (R.bin BinOp.mul FloatKind.f64 (R.bin BinOp.mul FloatKind.f64 s s) (R.bin BinOp.add FloatKind.f64 (R.bin BinOp.quo FloatKind.f64 4607182418800017408 (R.ofi FloatKind.f64 (Int.ofNat 11))) (R.bin BinOp.mul FloatKind.f64 (R.bin BinOp.mul FloatKind.f64 s s) (R.bin BinOp.add FloatKind.f64 (R.bin BinOp.quo FloatKind.f64 4607182418800017408 (R.ofi FloatKind.f64 (Int.ofNat 13))) (R.bin BinOp.mul FloatKind.f64 (R.bin BinOp.mul FloatKind.f64 s s) (R.bin BinOp.add FloatKind.f64 (R.bin BinOp.quo FloatKind.f64 4607182418800017408 (R.ofi FloatKind.f64 (Int.ofNat 15))) (R.bin BinOp.mul FloatKind.f64 (R.bin BinOp.mul FloatKind.f64 s s) (R.bin BinOp.add FloatKind.f64 (R.bin BinOp.quo FloatKind.f64 4607182418800017408 (R.ofi FloatKind.f64 (Int.ofNat 17))) (R.bin BinOp.mul FloatKind.f64 (R.bin BinOp.mul FloatKind.f64 s s) (R.bin BinOp.add FloatKind.f64 (R.bin BinOp.quo FloatKind.f64 4607182418800017408 (R.ofi FloatKind.f64 (Int.ofNat 19))) (R.bin BinOp.mul FloatKind.f64 (R.bin BinOp.mul FloatKind.f64 s s) (R.bin BinOp.add FloatKind.f64 (R.bin BinOp.quo FloatKind.f64 4607182418800017408 (R.ofi FloatKind.f64 (Int.ofNat 21))) (R.bin BinOp.mul FloatKind.f64 (R.bin BinOp.mul FloatKind.f64 s s) (R.bin BinOp.add FloatKind.f64 (R.bin BinOp.quo FloatKind.f64 4607182418800017408 (R.ofi FloatKind.f64 (Int.ofNat 23))) (R.bin BinOp.mul FloatKind.f64 (R.bin BinOp.mul FloatKind.f64 s s) (R.bin BinOp.add FloatKind.f64 (R.bin BinOp.quo FloatKind.f64 4607182418800017408 (R.ofi FloatKind.f64 25)) (R.bin BinOp.mul FloatKind.f64 (R.bin BinOp.mul FloatKind.f64 s s) 0)))))))))))))))))))))))))))) (R.bin BinOp.mul FloatKind.f64 (R.ofi FloatKind.f64 e) 4604418534313441775)) 16 := by
  have hu : Bd (R.bin .mul .f64 s s) 0 := bd_mul hs hs (by decide) (by decide)
  have b13 := bd_zero
  have b12 := log_term0 hu b13 (by decide) (by decide) (log_den 12 (by decide))
  have b11 := log_term0 hu b12 (by decide) (by decide) (log_den 11 (by decide))
  have b10 := log_term0 hu b11 (by decide) (by decide) (log_den 10 (by decide))
  have b9 := log_term0 hu b10 (by decide) (by decide) (log_den 9 (by decide))
  have b8 := log_term0 hu b9 (by decide) (by decide) (log_den 8 (by decide))
  have b7 := log_term0 hu b8 (by decide) (by decide) (log_den 7 (by decide))
  have b6 := log_term0 hu b7 (by decide) (by decide) (log_den 6 (by decide))
  have b5 := log_term0 hu b6 (by decide) (by decide) (log_den 5 (by decide))
  have b4 := log_term0 hu b5 (by decide) (by decide) (log_den 4 (by decide))
  have b3 := log_term0 hu b4 (by decide) (by decide) (log_den 3 (by decide))
  have b2 := log_term0 hu b3 (by decide) (by decide) (log_den 2 (by decide))
  have b1 := log_term0 hu b2 (by decide) (by decide) (log_den 1 (by decide))
  have b0 := log_term0 hu b1 (by decide) (by decide) (log_den 0 (by decide))
  have c1 := bd_mul hs b0 (by decide) (by decide)
  have c2 := bd_mul bd_two c1 (by decide) (by decide)
  have c3 := bd_mul (ofi_exp h1 h2) bd_ln2 (by decide) (by decide)
  exact bd_mono (bd_add c2 (bd_mono c3 (by decide)) (by decide) (by decide)) (by decide)

theorem log_share0 {y : Nat} (hn : Nm .f64 y) (h1 : 3 / 4 ≤ fv .f64 y) (h2 : fv .f64 y ≤ 2) : Bd (R.bin .quo .f64 (R.bin .sub .f64 y 4607182418800017408) (R.bin .add .f64 y 4607182418800017408)) 0 := by
  have hs := rd_sub hn bd_one.1
  rw [fv_one] at hs
  have a1 : Bd (R.bin .sub .f64 y 4607182418800017408) 0 := hs.le 0 (by decide) (by decide) (by rw [p2_zero]; grind) (by rw [p2_zero]; grind)
  have hr := rd_add hn bd_one.1
  rw [fv_one] at hr
  obtain ⟨hN, _, _⟩ := hr.le 2 (by decide) (by decide) (by rw [p2_two]; grind) (by rw [p2_two]; grind)
  have hge := hr.ge 0 (by decide) hN (by rw [p2_zero]; grind)
  exact bd_quo a1 hN hge (by decide) (by decide)

theorem log16 {a : Nat} (h : Nm .f32 a) (hp : 0 < fv .f32 a) : Bd (p_impl_logarithm R a) 16 := by
  obtain ⟨h1, h2, h3⟩ := pos_range h hp
  obtain ⟨y0, e0, y1, e1, w0, w1, n1, n2, n3, n4, n5⟩ := log_runs h1 h2 h3
  have c0 : c0_impl_logarithm R a = some (y0, e0, 0, ()) := w0
  have c1 : c1_impl_logarithm R a = some (y1, e1, 0, ()) := by unfold c1_impl_logarithm; rw [c0]; exact w1
  have hs : c2_impl_logarithm R a = R.bin .quo .f64 (R.bin .sub .f64 y1 4607182418800017408) (R.bin .add .f64 y1 4607182418800017408) := by unfold c2_impl_logarithm; rw [c1]; rfl
  have := log_last15 (log_share0 n1 n2 n3) n4 n5
  unfold p_impl_logarithm
  rw [hs, c1]
  exact this
end Go.Dv

/- Bounds of angles, points and steps. -/
namespace Go.Dv
open Go.Cv
open Ieee

/-! ### roots -/
theorem rootFrom_ge (n : Nat) : ∀ todo root, root ≤ Datum.rootFrom n todo root := by
  intro todo
  induction todo with
  | zero => intro root; exact Nat.le_refl _
  | succ k ih =>
    intro root
    unfold Datum.rootFrom
    simp only
    split
    · exact Nat.le_trans (Nat.le_add_right _ _) (ih _)
    · exact ih _
theorem rootFrom_top {n : Nat} (hn : n ≠ 0) : 2 ^ (n.log2 / 2) ≤ Datum.rootFrom n (n.log2 / 2 + 1) 0 := by
  unfold Datum.rootFrom
  simp only [Nat.zero_add, Nat.one_shiftLeft]
  have h1 : 2 ^ (n.log2 / 2) * 2 ^ (n.log2 / 2) ≤ n := by
    rw [← Nat.pow_add]
    refine Nat.le_trans (Nat.pow_le_pow_right (by decide) ?_) (Nat.log2_self_le hn)
    omega
  rw [if_pos h1]
  exact rootFrom_ge _ _ _

theorem sqrt_ge_one {a : Nat} (ha : Nm .f64 a) (h1 : 1 ≤ fv .f64 a) (hN : Nm .f64 (R.sqrt a)) : 1 ≤ fv .f64 (R.sqrt a) := by
  obtain ⟨s, m, i, hr⟩ := ha
  have hv : fv .f64 a = vd (.number s m i) := by unfold fv; rw [hr]
  rw [hv] at h1
  have hg := mg_nonneg m i
  have hs : s = false := by
    cases s
    · rfl
    · exfalso; rw [vd_true] at h1; grind
  subst hs
  rw [vd_false] at h1
  have hm : m ≠ 0 := by
    intro h; subst h; rw [mg_zero] at h1; exact absurd h1 (by decide +kernel)
  obtain ⟨more, hmore, hev⟩ : ∃ more : Nat, more = 2 * (FloatKind.f64.format.fractionBits + 2) - m.log2 + ((i - ((2 * (FloatKind.f64.format.fractionBits + 2) - m.log2 : Nat) : Int)) % 2).toNat ∧ (i - (more : Int)) % 2 = 0 := by
    refine ⟨_, rfl, ?_⟩
    generalize 2 * (FloatKind.f64.format.fractionBits + 2) - m.log2 = z
    omega
  have hform : R.sqrt a = FloatKind.f64.format.nearest false (2 * Datum.rootFrom (m <<< more) ((m <<< more).log2 / 2 + 1) 0 + (Datum.rootFrom (m <<< more) ((m <<< more).log2 / 2 + 1) 0 * Datum.rootFrom (m <<< more) ((m <<< more).log2 / 2 + 1) 0 != (m <<< more)).toNat) ((i - more) / 2 - 1) := by
    show (FloatKind.f64.format.sqrt a).getD (nanOf .f64) = _
    unfold Format.sqrt
    rw [hr, hmore]
    simp only [Datum.root, if_neg hm]
    rfl
  have hD : mg (m <<< more) (i - more) = mg m i := by
    rw [mg_shift (show i - (more : Int) ≤ i by omega), Nat.shiftLeft_eq]
    congr 3; omega
  have hDpos : m <<< more ≠ 0 := by
    rw [Nat.shiftLeft_eq]
    have := Nat.two_pow_pos more
    exact Nat.mul_ne_zero hm (by omega)
  have hW := rootFrom_top hDpos
  rw [hform] at hN ⊢
  generalize Datum.rootFrom (m <<< more) ((m <<< more).log2 / 2 + 1) 0 = W at *
  have hlt : m <<< more < 2 ^ ((m <<< more).log2 + 1) := Nat.lt_log2_self
  generalize m <<< more = D at *
  obtain ⟨U, hU⟩ : ∃ U : Int, i - more = 2 * U := ⟨(i - more) / 2, by omega⟩
  have hU2 : (i - (more : Int)) / 2 = U := by omega
  rw [hU2] at hN ⊢
  rw [hU] at hD
  rw [← hD] at h1
  -- the digits of D reach one
  have hlog : -(2 * U) < D.log2 + 1 := by
    refine Classical.byContradiction fun hc => ?_
    have h2 : mg D (2 * U) ≤ mg (2 ^ (D.log2 + 1)) (2 * U) := mg_le.2 (Nat.le_of_lt hlt)
    have h3 : mg (2 ^ (D.log2 + 1)) (2 * U) = p2 ((D.log2 + 1 : Nat) + 2 * U) := by unfold mg; rw [p2_add, p2_nat]
    have h4 : p2 ((D.log2 + 1 : Nat) + 2 * U) ≤ p2 0 := p2_mono (by omega)
    have h5 : mg D (2 * U) < mg (2 ^ (D.log2 + 1)) (2 * U) := by
      refine Rat.not_le.1 fun h => ?_
      have := mg_le.1 h; omega
    rw [p2_zero] at h4
    rw [h3] at h5
    grind
  have hge : p2 0 ≤ mg (2 * W + (W * W != D).toNat) (U - 1) := by
    have h2 : mg (2 * 2 ^ (D.log2 / 2)) (U - 1) ≤ mg (2 * W + (W * W != D).toNat) (U - 1) := mg_le.2 (by omega)
    refine Rat.le_trans ?_ h2
    rw [mg_double, show U - 1 + 1 = U by omega]
    have h3 : mg (2 ^ (D.log2 / 2)) U = p2 ((D.log2 / 2 : Nat) + U) := by unfold mg; rw [p2_add, p2_nat]
    rw [h3]
    exact p2_mono (by omega)
  have := (rd_nearest .f64 false (2 * W + (W * W != D).toNat) (U - 1)).ge 0 (by decide) hN (by rw [vd_false]; exact hge)
  rw [p2_zero] at this
  exact this

/-! ### angles -/
theorem half_step {t : Nat} (h : Un t) {E : Int} (hE : fv .f64 t ≤ p2 E) (h1 : -1000 ≤ E) (h2 : E ≤ 0) : fv .f64 (angStep R t) ≤ p2 (E - 1) := by
  have hs := un_sq h
  have hr := rd_add bd_one.1 hs.1
  rw [fv_one] at hr
  obtain ⟨s1, s2, s3⟩ := hs
  obtain ⟨k1, k2, k3⟩ := h
  obtain ⟨hN, hl, _⟩ := hr.le 1 (by decide) (by decide) (by rw [p2_one]; grind) (by rw [p2_one]; grind)
  have h0 := hr.pos (by grind) hN
  have h1' := hr.ge 0 (by decide) hN (by rw [p2_zero]; grind)
  rw [p2_zero] at h1'
  have h4 : fv .f64 (R.bin .add .f64 4607182418800017408 (R.bin .mul .f64 t t)) ≤ p2 (2 * 1) := Rat.le_trans hl (p2_mono (by decide))
  obtain ⟨q1, q2, q3⟩ := sqrt_nm hN h0 h4 (by decide) (by decide)
  rw [p2_one] at q3
  have q4 := sqrt_ge_one hN h1' q1
  have hr2 := rd_add bd_one.1 q1
  rw [fv_one] at hr2
  obtain ⟨hN2, hl2, _⟩ := hr2.le 2 (by decide) (by decide) (by rw [p2_two]; grind) (by rw [p2_two]; grind)
  have hg2 := hr2.ge 1 (by decide) hN2 (by rw [p2_one]; grind)
  unfold angStep
  have hb : Bd t E := ⟨k1, hE, by have := p2_nonneg E; grind⟩
  have := bd_quo hb hN2 hg2 (by omega) (by omega)
  exact this.2.1

theorem ang_one : R.bin .quo .f64 4607182418800017408 (R.ofi .f64 (2 * ((0 : Nat) : Int) + 1)) = 4607182418800017408 := by decide +kernel
theorem angPoly_succ (M : FOps) (u k p : Nat) : angPoly M u (k + 1) p = angPoly M u k (M.bin .sub .f64 (M.bin .quo .f64 4607182418800017408 (M.ofi .f64 (2 * (k : Int) + 1))) (M.bin .mul .f64 u p)) := rfl
theorem angPoly_zero (M : FOps) (u p : Nat) : angPoly M u 0 p = p := rfl
theorem angPoly_last {u : Nat} (hu : Bd u (-6)) : ∀ (k : Nat), k ≤ 7 → ∀ p, Bd p 1 → ∃ p1, Bd p1 1 ∧ angPoly R u (k + 1) p = R.bin .sub .f64 4607182418800017408 (R.bin .mul .f64 u p1) := by
  intro k
  induction k with
  | zero =>
    intro _ p h
    refine ⟨p, h, ?_⟩
    rw [angPoly_succ, angPoly_zero, ang_one]
  | succ k ih =>
    intro hk p h
    obtain ⟨d1, d2⟩ := ang_den (k + 1) (by omega)
    have a1 := bd_mul hu h (by decide) (by decide)
    have a2 := bd_quo bd_one d1 d2 (by decide) (by decide)
    have a3 := bd_sub (bd_mono a2 (show (0 - 0 : Int) ≤ 0 by decide)) (bd_mono a1 (show (-6 + 1 : Int) ≤ 0 by decide)) (by decide) (by decide)
    obtain ⟨p1, h1, h2⟩ := ih (by omega) _ (bd_mono a3 (show (0 + 1 : Int) ≤ 1 by decide))
    refine ⟨p1, h1, ?_⟩
    rw [angPoly_succ]
    exact h2

theorem angCore_half {t : Nat} (h : Un t) : Nm .f64 (angCore R t) ∧ 0 ≤ fv .f64 (angCore R t) ∧ fv .f64 (angCore R t) ≤ 1 / 2 := by
  have u1 := un_step h
  have u2 := un_step u1
  have u3 := un_step u2
  have e1 := half_step h (E := 0) (by rw [p2_zero]; exact h.2.2) (by decide) (by decide)
  have e2 := half_step u1 e1 (by decide) (by decide)
  have e3 := half_step u2 e2 (by decide) (by decide)
  unfold angCore
  generalize angStep R (angStep R (angStep R t)) = w at *
  have bw : Bd w (-3) := ⟨u3.1, e3, by have := p2_nonneg (-3); have := u3.2.1; grind⟩
  have bu := bd_mul bw bw (by decide) (by decide)
  unfold angOf3 angPoly8
  obtain ⟨p1, hp1, hp⟩ := angPoly_last bu 7 (by decide) 0 (bd_mono bd_zero (by decide))
  rw [hp]
  have bx := bd_mul bu hp1 (by decide) (by decide)
  have p5 : p2 (-3 + -3 + 1) = 1 / 32 := by decide +kernel
  have hs := rd_sub bd_one.1 bx.1
  rw [fv_one] at hs
  have x1 := bx.2.1; have x2 := bx.2.2
  rw [p5] at x1 x2
  obtain ⟨hNs, s1, _⟩ := hs.le 1 (by decide) (by decide) (by rw [p2_one]; grind) (by rw [p2_one]; grind)
  have s0 := hs.pos (by grind) hNs
  generalize R.bin .sub .f64 4607182418800017408 (R.bin .mul .f64 (R.bin .mul .f64 w w) p1) = P at *
  have bP : Bd P 1 := ⟨hNs, s1, by have := p2_nonneg 1; grind⟩
  have b1 := bd_mul bw bP (by decide) (by decide)
  have n1 := (rd_mul bw.1 bP.1).pos (Rat.mul_nonneg u3.2.1 s0) b1.1
  generalize R.bin .mul .f64 w P = Q at *
  have b2 := bd_mul bd_eight b1 (by decide) (by decide)
  have v8 : 0 ≤ fv .f64 4620693217682128896 := by decide +kernel
  have n2 := (rd_mul bd_eight.1 b1.1).pos (Rat.mul_nonneg v8 n1) b2.1
  generalize R.bin .mul .f64 4620693217682128896 Q = Z at *
  have b3 := bd_quo b2 bd_turn.1 turn_ge (by decide) (by decide)
  have ht := turn_lo
  have n3 := (rd_quo b2.1 bd_turn.1 (by grind)).pos (by rw [Rat.div_def]; exact Rat.mul_nonneg n2 (Rat.le_of_lt (Rat.inv_pos.2 (by grind)))) b3.1
  have pe : p2 (3 + (-3 + 1) - 2) = 1 / 2 := by decide +kernel
  have := b3.2.1
  rw [pe] at this
  exact ⟨b3.1, n3, this⟩

/-- the angle of a point that does not lie below: between -1/4 and 1 -/
theorem angTail_up {a b : Nat} (xn : Bool) (ha : Nm .f64 a) (hb : Nm .f64 b) (h0 : 0 ≤ fv .f64 a) (h1 : 0 ≤ fv .f64 b) (hne : ¬ (fv .f64 a = 0 ∧ fv .f64 b = 0)) :
    Nm .f64 (angTail R a b xn false) ∧ -(1 / 4) ≤ fv .f64 (angTail R a b xn false) ∧ fv .f64 (angTail R a b xn false) ≤ 1 := by
  unfold angTail
  simp only [cond_false]
  rw [gtr_nm ha hb]
  have hq : ∃ g, (bif decide (fv .f64 b < fv .f64 a) then R.bin .sub .f64 4598175219545276416 (angCore R (bif decide (fv .f64 b < fv .f64 a) then R.bin .quo .f64 b a else R.bin .quo .f64 a b)) else angCore R (bif decide (fv .f64 b < fv .f64 a) then R.bin .quo .f64 b a else R.bin .quo .f64 a b)) = g ∧ Nm .f64 g ∧ -(1 / 4) ≤ fv .f64 g ∧ fv .f64 g ≤ 1 / 2 := by
    refine ⟨_, rfl, ?_⟩
    by_cases hc : fv .f64 b < fv .f64 a
    · rw [decide_eq_true hc]
      simp only [cond_true]
      obtain ⟨c1, c2, c3⟩ := angCore_half (un_quo hb ha h1 (by grind) (by grind))
      have hr := rd_sub bd_quart.1 c1
      rw [fv_q64] at hr
      obtain ⟨k1, k2, k3⟩ := hr.le (-2) (by decide) (by decide) (by rw [p2_m2]; grind) (by rw [p2_m2]; grind)
      rw [p2_m2] at k2 k3
      exact ⟨k1, by grind, by grind⟩
    · rw [decide_eq_false hc]
      simp only [cond_false]
      obtain ⟨c1, c2, c3⟩ := angCore_half (un_quo ha hb h0 (by grind) (by grind))
      exact ⟨c1, by grind, c3⟩
  obtain ⟨g, hg, g1, g2, g3⟩ := hq
  rw [hg]
  cases xn
  · exact ⟨g1, g2, by rw [cond_false]; grind⟩
  · rw [cond_true]
    have hr := rd_sub bd_half.1 g1
    rw [fv_half] at hr
    obtain ⟨k1, k2, k3⟩ := hr.le 0 (by decide) (by decide) (by rw [p2_zero]; grind) (by rw [p2_zero]; grind)
    rw [p2_zero] at k2
    have := hr.pos (by grind) k1
    exact ⟨k1, by grind, k2⟩

/-- between -1/4 and 1, narrowed -/
theorem nar_up {y : Nat} (h : Nm .f64 y) (h1 : -(1 / 4) ≤ fv .f64 y) (h2 : fv .f64 y ≤ 1) : Nm .f32 (R.nar y) ∧ -(1 / 4) ≤ fv .f32 (R.nar y) ∧ fv .f32 (R.nar y) ≤ 1 := by
  have hb : Bd y 0 := ⟨h, by rw [p2_zero]; exact h2, by rw [p2_zero]; grind⟩
  have hbk := bk_nar hb (by decide) (by decide)
  have hk := bd_narOk hb (by decide)
  obtain ⟨s, m, e, hr⟩ := h
  have hN := hbk.1
  have hl := hbk.2.1
  rw [p2_zero] at hl
  refine ⟨hN, ?_, hl⟩
  have hf := nar_form hr hk
  rw [hf] at hN ⊢
  have hv : fv .f64 y = vd (.number s m e) := by unfold fv; rw [hr]
  have := (rc_nearest .f32 s m e).ge _ nm_nq32 hN (by rw [← hv, fv_nq32]; exact h1)
  rw [fv_nq32] at this
  exact this

theorem angle_up {y x : Nat} (hy : R.cmp .lss .f32 y 0 = false) (hN : Nm .f32 (p_impl_AngleTurns R y x)) : -(1 / 4) ≤ fv .f32 (p_impl_AngleTurns R y x) ∧ fv .f32 (p_impl_AngleTurns R y x) ≤ 1 := by
  unfold p_impl_AngleTurns p_impl_AngleWide angFin at *
  rw [fin_wide, fin_wide] at *
  rcases nm_dec .f32 y with ny | ny
  · rcases nm_dec .f32 x with nx | nx
    · have wy := wid_nm ny
      have wx := wid_nm nx
      rw [decide_eq_true ny, decide_eq_true nx, hy] at *
      simp only [Bool.and_self, cond_true] at *
      cases hz : (bif R.cmp .eql .f32 x 0 then R.cmp .eql .f32 y 0 else false)
      · rw [hz] at hN
        simp only [cond_false] at *
        have hne : ¬ (fv .f64 (R.abs (R.wid y)) = 0 ∧ fv .f64 (R.abs (R.wid x)) = 0) := by
          intro ⟨e1, e2⟩
          have a1 := (abs_nm wy.1).2.2
          have a2 := (abs_nm wx.1).2.2
          have e3 : fv .f32 y = 0 := by rw [← wy.2]; grind
          have e4 : fv .f32 x = 0 := by rw [← wx.2]; grind
          rw [eql_nm nx nm32_zero, eql_nm ny nm32_zero, e3, e4, fv32_zero] at hz
          simp at hz
        obtain ⟨t1, t2, t3⟩ := angTail_up (R.cmp .lss .f32 x 0) (abs_nm wy.1).1 (abs_nm wx.1).1 (abs_nm wy.1).2.1 (abs_nm wx.1).2.1 hne
        exact (nar_up t1 t2 t3).2
      · simp only [cond_true]
        rw [fv32_zero]
        exact ⟨by decide +kernel, by decide +kernel⟩
    · exfalso
      rw [decide_eq_true ny, decide_eq_false nx] at hN
      simp only [Bool.false_and, cond_false] at hN
      rw [nar_nan'] at hN
      exact nan_far hN
  · exfalso
    rw [decide_eq_false ny] at hN
    simp only [Bool.false_and, Bool.and_false, cond_false] at hN
    rw [nar_nan'] at hN
    exact nan_far hN

/-- a root is not below nought -/
theorem root_not_neg (z : Nat) : R.cmp .lss .f32 (p_spec_l01Sqrt R z) 0 = false := by
  have e : p_spec_l01Sqrt R z = R.nar (R.sqrt (R.wid z)) := rfl
  rcases nm_dec .f32 z with h | h
  · have w := wid_nm h
    by_cases h0 : 0 ≤ fv .f32 z
    · obtain ⟨s, m, i, hz⟩ := h
      have hle : fv .f32 z ≤ p2 128 := by
        obtain ⟨b1, b2, b3⟩ := read32_e z hz
        have hg := mg_nonneg m i
        have hv : fv .f32 z ≤ mg m i := by unfold fv; rw [hz]; cases s <;> simp only [vd_true, vd_false] <;> grind
        have ht : topOf FloatKind.f32.format = p2 128 := by decide +kernel
        rw [ht] at b3
        grind
      obtain ⟨q1, q2, q3⟩ := sqrt_nm w.1 (by rw [w.2]; exact h0) (E := 64) (by rw [w.2]; exact hle) (by decide) (by decide)
      have hb : Bd (R.sqrt (R.wid z)) 64 := ⟨q1, q3, by have := p2_nonneg 64; grind⟩
      have hk := bk_nar hb (by decide) (by decide)
      have hkk := bd_narOk hb (by decide)
      obtain ⟨s', m', e', hr⟩ := q1
      have hN := hk.1
      rw [e, lss_nm hN nm32_zero, fv32_zero]
      have hv : fv .f64 (R.sqrt (R.wid z)) = vd (.number s' m' e') := by unfold fv; rw [hr]
      have hf := nar_form hr hkk
      rw [hf] at hN ⊢
      have := (rd_nearest .f32 s' m' e').pos (by rw [← hv]; exact q2) hN
      exact decide_eq_false (by grind)
    · -- the root of less than nought is none
      have hs : R.sqrt (R.wid z) = nanOf .f64 := by
        obtain ⟨s, m, i, hr⟩ := w.1
        have hv : fv .f32 z = vd (.number s m i) := by rw [← w.2]; unfold fv; rw [hr]
        have hg := mg_nonneg m i
        rw [hv] at h0
        cases s
        · exfalso; rw [vd_false] at h0; exact h0 hg
        · have hm : m ≠ 0 := by intro hm; subst hm; rw [vd_true, mg_zero] at h0; exact h0 (by decide +kernel)
          show (FloatKind.f64.format.sqrt (R.wid z)).getD (nanOf .f64) = _
          unfold Format.sqrt
          rw [hr]
          simp only [Datum.root, if_neg hm]
          rfl
      rw [e, hs]; decide
  · rcases not_nm h with h | ⟨s, h⟩
    · rw [e, wid_nan h]; decide
    · rw [e, wid_infw h]; cases s <;> decide
end Go.Dv

/- Bounds of points and steps; lengths and products narrow. -/
namespace Go.Dv
open Go.Cv
open Ieee

theorem apart_form (a b c d : Nat) : ∃ z x, p_spec_l02Apart R a b c d = p_impl_AngleTurns R (p_spec_l01Sqrt R z) x := by
  unfold p_spec_l02Apart p_spec_l02Long
  rw [← ang_eq]
  exact ⟨_, _, rfl⟩
theorem apart_up {a b c d : Nat} (h : Nm .f32 (p_spec_l02Apart R a b c d)) : -(1 / 4) ≤ fv .f32 (p_spec_l02Apart R a b c d) ∧ fv .f32 (p_spec_l02Apart R a b c d) ≤ 1 := by
  obtain ⟨z, x, e⟩ := apart_form a b c d
  rw [e] at h ⊢
  exact angle_up (root_not_neg z) h

theorem quo_far_l {a b : Nat} (h : ¬ Nm .f32 a) : ¬ Nm .f32 (R.bin .quo .f32 a b) := by
  have e : R.bin .quo .f32 a b = (((FloatKind.f32.format.read a).quotient (FloatKind.f32.format.fractionBits + 2) (FloatKind.f32.format.read b)).map FloatKind.f32.format.write).getD (nanOf .f32) := rfl
  rw [e]
  rcases not_nm h with h | ⟨s, h⟩
  · obtain ⟨s, t, hr⟩ := nan_word h
    rw [hr]
    cases FloatKind.f32.format.read b <;> exact nan_far
  · rw [h]
    cases FloatKind.f32.format.read b with
    | nan _ _ => exact nan_far
    | number _ _ _ => exact inf_far _
    | infinity s' => exact nan_far

/-- a logarithm that is a number is a small one -/
theorem log_bk {a : Nat} (h : Nm .f32 (p_spec_l01Log R a)) : Bk .f32 (p_spec_l01Log R a) 16 := by
  have hi := (log_good a).2.2
  rcases nm_dec .f32 a with n | n
  · cases hz : R.cmp .eql .f32 a 0
    · cases hl : R.cmp .lss .f32 a 0
      · have hp : 0 < fv .f32 a := by
          rw [eql_nm n nm32_zero, fv32_zero] at hz
          rw [lss_nm n nm32_zero, fv32_zero] at hl
          have a1 := of_decide_eq_false hz
          have a2 := of_decide_eq_false hl
          grind
        have e2 : R.cmp .neq .f32 a a = false := by rw [neq_not, eql_nm n n, decide_eq_true rfl]; rfl
        have hf : p_impl_IsFinite R a = true := by rw [fin_wide]; exact decide_eq_true n
        obtain ⟨k1, _, _, k4⟩ := log_ok n hp
        obtain ⟨_, i2⟩ := impl_log_fin hz hl e2 hf k1 k4
        have hb := bk_nar (log16 n hp) (by decide) (by decide)
        rw [i2] at hi
        obtain ⟨b1, b2, b3⟩ := hb
        refine ⟨h, ?_, ?_⟩
        · unfold fv at b2 ⊢; rw [← hi]; exact b2
        · unfold fv at b3 ⊢; rw [← hi]; exact b3
      · exfalso
        obtain ⟨_, i2⟩ := impl_log_neg hz hl
        rw [i2, nar_nan'] at hi
        apply nan_far
        unfold Nm at h ⊢; rw [hi]; exact h
    · exfalso
      obtain ⟨_, i2⟩ := impl_log_zero hz
      rw [i2] at hi
      have : ¬ Nm .f32 (R.nar (p_math_Inf R (Int.negSucc 0))) := by decide
      apply this
      unfold Nm at h ⊢; rw [hi]; exact h
  · exfalso
    -- of none the logarithm is none
    rcases not_nm n with n' | ⟨s, n'⟩
    · obtain ⟨s, t, hr⟩ := nan_word n'
      have c1 : R.cmp .eql .f32 a 0 = false := by show feq .f32 a 0 = false; unfold feq Format.order; rw [hr]; rfl
      have c2 : R.cmp .lss .f32 a 0 = false := by show flt .f32 a 0 = false; unfold flt Format.order; rw [hr]; rfl
      have c3 : R.cmp .neq .f32 a a = true := by rw [neq_not]; show (!feq .f32 a a) = true; unfold feq Format.order; rw [hr]; rfl
      obtain ⟨_, i2⟩ := impl_log_nan c1 c2 c3
      rw [i2, nar_nan'] at hi
      apply nan_far
      unfold Nm at h ⊢; rw [hi]; exact h
    · have c1 : R.cmp .eql .f32 a 0 = false := by show feq .f32 a 0 = false; unfold feq Format.order; rw [n']; cases s <;> rfl
      cases s
      · have c2 : R.cmp .lss .f32 a 0 = false := by show flt .f32 a 0 = false; unfold flt Format.order; rw [n']; rfl
        have c3 : R.cmp .neq .f32 a a = false := by rw [neq_not]; show (!feq .f32 a a) = false; unfold feq Format.order; rw [n']; rfl
        have hf : p_impl_IsFinite R a = false := by rw [fin_wide]; exact decide_eq_false n
        obtain ⟨_, i2⟩ := impl_log_inf c1 c2 c3 hf
        rw [i2] at hi
        apply n
        unfold Nm at h ⊢; rw [hi]; exact h
      · have c2 : R.cmp .lss .f32 a 0 = true := by show flt .f32 a 0 = true; unfold flt Format.order; rw [n']; rfl
        obtain ⟨_, i2⟩ := impl_log_neg c1 c2
        rw [i2, nar_nan'] at hi
        apply nan_far
        unfold Nm at h ⊢; rw [hi]; exact h

theorem turn32 : Bk .f32 1086918619 3 := ⟨⟨_, _, _, rfl⟩, by decide +kernel, by decide +kernel⟩
theorem turn32_ge : p2 2 ≤ fv .f32 1086918619 := by decide +kernel
theorem two32 : Bk .f32 1073741824 1 := ⟨⟨_, _, _, rfl⟩, by decide +kernel, by decide +kernel⟩
theorem half32 : Bk .f32 1056964608 (-1) := ⟨⟨_, _, _, rfl⟩, by decide +kernel, by decide +kernel⟩

theorem number_inv {x v : Nat} (h : p_spec_l02Number R x = (v, true)) : Nm .f32 x ∧ v = x := by
  unfold p_spec_l02Number at h
  cases hf : p_spec_l01Finite R x
  · rw [hf] at h; cases h
  · rw [hf] at h
    have h : (x, true) = (v, true) := h
    cases h
    exact ⟨fin_yes hf, rfl⟩
theorem number3_inv {x y u v : Nat} (h : p_spec_l03Number R x y = (u, v, true)) : Nm .f32 x ∧ Nm .f32 y ∧ u = x ∧ v = y := by
  unfold p_spec_l03Number p_spec_l01CFinite at h
  cases hx : p_spec_l01Finite R x
  · rw [hx] at h; cases h
  · cases hy : p_spec_l01Finite R y
    · rw [hx, hy] at h; cases h
    · rw [hx, hy] at h
      have h : (x, y, true) = (u, v, true) := h
      cases h
      exact ⟨fin_yes hx, fin_yes hy, rfl, rfl⟩

theorem eta2 (x : Nat × Bool) : (x.fst, x.snd) = x := rfl
theorem stretch_bk {n : Nat} (h : (p_spec_l02Stretch R n).snd = true) : Bk .f32 (p_spec_l02Stretch R n).fst 14 := by
  have hv : p_spec_l02Stretch R n = ((p_spec_l02Stretch R n).fst, true) := Prod.ext rfl h
  generalize (p_spec_l02Stretch R n).fst = v at *
  unfold p_spec_l02Stretch at hv
  cases h1 : R.cmp .gtr .f32 n 3196059648
  · rw [h1] at hv; cases hv
  cases h2 : R.cmp .lss .f32 n 1048576000
  · rw [h1, h2] at hv; cases hv
  rw [h1, h2] at hv
  simp only [cond_true, Bool.not_true, cond_false, eta2] at hv
  unfold c1_spec_l02Stretch at hv
  obtain ⟨k1, rfl⟩ := number_inv hv
  have k2 : Nm .f32 (p_spec_l01Log R (c0_spec_l02Stretch R n)) := Classical.byContradiction fun hc => quo_far_l hc k1
  exact bk_quo (log_bk k2) turn32.1 turn32_ge (by decide) (by decide)

theorem scale_eq (x y r : Nat) : p_spec_l01Scale R x y r = (R.bin .mul .f32 x r, R.bin .mul .f32 y r) := rfl

theorem in_bk {x : Nat} (h : InH x) : Bk .f32 x (-1) := ⟨h.1, by rw [p2_m1]; have := h.2.2; grind, by rw [p2_m1]; have := h.2.1; grind⟩

/-- the east of the middle -/
theorem east_bk {a b c d : Nat} (h1 : p_impl_ValidPlace R a b = true) (h2 : p_impl_ValidPlace R c d = true) : Bk .f32 (p_spec_l02Wrap R (R.bin .sub .f32 d b)) (-1) := by
  obtain ⟨_, _, _, e1, e2, e3⟩ := place_in h1
  obtain ⟨_, _, _, f1, f2, f3⟩ := place_in h2
  have hr := rd_sub f1 e1
  obtain ⟨k1, k2, k3⟩ := hr.le 0 (by decide) (by decide) (by rw [p2_zero]; grind) (by rw [p2_zero]; grind)
  rw [p2_zero] at k2 k3
  exact in_bk (wrap_in k1 (by grind) k2)

theorem add_q_nm {n : Nat} (h : Nm .f32 n) (h1 : -1 ≤ fv .f32 n) (h2 : fv .f32 n ≤ 1) : Nm .f32 (R.bin .add .f32 n 1048576000) := by
  have hr := rd_add h nm_q32
  rw [fv_q32] at hr
  exact (hr.le 1 (by decide) (by decide) (by rw [p2_one]; grind) (by rw [p2_one]; grind)).1

/-- a point of a round map -/
theorem far_bk {k : Int} {d a x y : Nat} (hd : Nm .f32 d → -(1 / 4) ≤ fv .f32 d ∧ fv .f32 d ≤ 1) (h : farPoint k d a = (x, y, true)) : Bk .f32 x 20 ∧ Bk .f32 y 20 := by
  have nd : Nm .f32 d := Classical.byContradiction fun hc => by rw [farPoint_apart hc] at h; cases h
  have na : Nm .f32 a := Classical.byContradiction fun hc => by rw [farPoint_course hc] at h; cases h
  obtain ⟨d1, d2⟩ := hd nd
  have bdd : Bk .f32 d 0 := ⟨nd, by rw [p2_zero]; exact d2, by rw [p2_zero]; grind⟩
  have bh : Bk .f32 (R.bin .mul .f32 1056964608 d) (-1 + 0) := bk_mul half32 bdd (by decide) (by decide)
  -- the phasor
  have hp : ∀ r, ∀ x y, p_spec_l03Number R (p_spec_l01Scale R (p_spec_l01Phasor R (R.wid (R.bin .sub .f32 1048576000 a))).1 (p_spec_l01Phasor R (R.wid (R.bin .sub .f32 1048576000 a))).2 r).1 (p_spec_l01Scale R (p_spec_l01Phasor R (R.wid (R.bin .sub .f32 1048576000 a))).1 (p_spec_l01Phasor R (R.wid (R.bin .sub .f32 1048576000 a))).2 r).2 = (x, y, true) → Bk .f32 r 12 → Bk .f32 x 20 ∧ Bk .f32 y 20 := by
    intro r x y h hr
    obtain ⟨n1, n2, rfl, rfl⟩ := number3_inv h
    have nt : Nm .f64 (R.wid (R.bin .sub .f32 1048576000 a)) := by
      refine Classical.byContradiction fun hc => ?_
      have := (phasor_far hc).2.1
      rw [this] at n1
      have e : (p_spec_l01Scale R (nanOf .f32, nanOf .f32).1 (nanOf .f32, nanOf .f32).2 r).1 = nanOf .f32 := mul_nan_l (b := r) nanW
      rw [e] at n1
      exact nan_far n1
    obtain ⟨p1, p2'⟩ := phasor_two nt
    exact ⟨bk_mono (bk_mul p1 hr (by decide) (by decide)) (by decide), bk_mono (bk_mul p2' hr (by decide) (by decide)) (by decide)⟩
  have b1 := bh.2.1; have b2 := bh.2.2
  have pe : p2 (-1 + 0) = 1 / 2 := by decide +kernel
  rw [pe] at b1 b2
  unfold farPoint at h
  cases h4 : k == 4
  · rw [h4, cond_false] at h
    cases h5 : k == 5
    · rw [h5, cond_false] at h
      exact hp _ _ _ h (bk_mono (bk_mul turn32 bdd (by decide) (by decide)) (by decide))
    · rw [h5, cond_true] at h
      exact hp _ _ _ h (bk_mono (bk_mul two32 (sine_two bh.1) (by decide) (by decide)) (by decide))
  · rw [h4, cond_true] at h
    cases hl : R.cmp .leq .f32 d 1055286886
    · rw [hl] at h; cases h
    · rw [hl] at h
      have nl : Nm .f32 1055286886 := ⟨_, _, _, rfl⟩
      have vl : fv .f32 1055286886 ≤ 29 / 64 := by decide +kernel
      rw [leq_nm nd nl] at hl
      have hl := of_decide_eq_true hl
      -- half of it is small
      have hr := rd_mul half32.1 nd
      have hc := rc_mul half32.1 nd
      have v5 : fv .f32 1056964608 = 1 / 2 := fv_h32
      rw [v5] at hr hc
      have nq : Nm .f32 1047527424 := ⟨_, _, _, rfl⟩
      have vq : fv .f32 1047527424 = 15 / 64 := by decide +kernel
      have nq' : Nm .f32 3187671040 := ⟨_, _, _, rfl⟩
      have vq' : fv .f32 3187671040 = -(1 / 8) := by decide +kernel
      have u1 := hc.le _ nq bh.1 (by rw [vq]; grind)
      have u2 := hc.ge _ nq' bh.1 (by rw [vq']; grind)
      rw [vq] at u1; rw [vq'] at u2
      have h24 : In24 (R.bin .mul .f32 1056964608 d) := ⟨bh.1, by grind, by grind⟩
      obtain ⟨c1, c2, _⟩ := cos_low h24
      have hq := bk_quo (sine_two bh.1) c1 (D := -6) (by rw [p2_m6]; exact c2) (by decide) (by decide)
      exact hp _ _ _ h (bk_mono (bk_mul two32 hq (by decide) (by decide)) (by decide))

theorem in24_q {x : Nat} (h : In24 x) : Nm .f32 (R.bin .add .f32 x 1048576000) := add_q_nm h.1 (by have := h.2.1; grind) (by have := h.2.2; grind)

theorem first_in {k : Int} {a b f : Nat} (h : p_spec_l03Is R k a b f = true) : In24 f := by
  rw [← map_eq] at h
  unfold p_impl_ValidMap at h
  cases h1 : p_impl_within R k 0 6
  · rw [h1] at h; cases h
  cases h2 : p_impl_ValidPlace R a b
  · rw [h1, h2] at h; cases h
  rw [h1, h2] at h
  exact in24_of h

theorem point_bk {k : Int} {a b f c d x y : Nat} (hm : p_spec_l03Is R k a b f = true) (hp : p_impl_ValidPlace R c d = true) (h : p_spec_l03Point R k a b f c d = (x, y, true)) : Bk .f32 x 20 ∧ Bk .f32 y 20 := by
  have vm := valid_mid hm
  have he := east_bk vm hp
  have hf := first_in hm
  obtain ⟨n1, n2, n3, _⟩ := place_in hp
  have nq := add_q_nm n1 (by grind) (by grind)
  have bn : Bk .f32 c (-2) := ⟨n1, by rw [p2_m2]; exact n3, by rw [p2_m2]; grind⟩
  have b0 : Bk .f32 (p_spec_l03Round R (p_spec_l02Wrap R (R.bin .sub .f32 d b))) (3 + -1) := bk_mul turn32 he (by decide) (by decide)
  have bcf := cos_two (in24_q hf)
  have bcn := cos_two nq
  have by1 : Bk .f32 (p_spec_l03Round R c) (3 + -2) := bk_mul turn32 bn (by decide) (by decide)
  cases h0 : k == 0
  · cases h1 : k == 1
    · cases h2 : k == 2
      · cases h3 : k == 3
        · rw [far_spec k a b f c d h0 h1 h2 h3] at h
          exact far_bk apart_up h
        · unfold p_spec_l03Point c7_spec_l03Point c2_spec_l03Point c0_spec_l03Point at h
          rw [h0, h1, h2, h3] at h
          simp only [cond_false, cond_true, eta3] at h
          obtain ⟨_, _, rfl, rfl⟩ := number3_inv h
          exact ⟨bk_mono (bk_mul b0 bcn (by decide) (by decide)) (by decide), bk_mono by1 (by decide)⟩
      · unfold p_spec_l03Point c6_spec_l03Point c1_spec_l03Point c0_spec_l03Point at h
        rw [h0, h1, h2] at h
        simp only [cond_false, cond_true, eta3] at h
        obtain ⟨_, _, rfl, rfl⟩ := number3_inv h
        obtain ⟨c1, c2, _⟩ := cos_low hf
        exact ⟨bk_mono (bk_mul b0 bcf (by decide) (by decide)) (by decide), bk_mono (bk_quo (sine_two n1) c1 (D := -6) (by rw [p2_m6]; exact c2) (by decide) (by decide)) (by decide)⟩
    · unfold p_spec_l03Point c5_spec_l03Point c4_spec_l03Point c0_spec_l03Point at h
      rw [h0, h1] at h
      simp only [cond_false, cond_true, eta3] at h
      cases hs : (p_spec_l02Stretch R c).snd
      · rw [hs] at h; cases h
      · rw [hs] at h
        simp only [Bool.not_true, cond_false] at h
        obtain ⟨_, _, rfl, rfl⟩ := number3_inv h
        exact ⟨bk_mono b0 (by decide), bk_mono (bk_mul turn32 (stretch_bk hs) (by decide) (by decide)) (by decide)⟩
  · unfold p_spec_l03Point c3_spec_l03Point c2_spec_l03Point c1_spec_l03Point c0_spec_l03Point at h
    rw [h0] at h
    simp only [cond_true, eta3] at h
    obtain ⟨_, _, rfl, rfl⟩ := number3_inv h
    exact ⟨bk_mono (bk_mul b0 bcf (by decide) (by decide)) (by decide), bk_mono by1 (by decide)⟩

/-! ### steps -/
theorem by_bk : Nm .f32 1011421147 ∧ p2 (-7) ≤ fv .f32 1011421147 ∧ fv .f32 1011421147 ≤ 1 := ⟨⟨_, _, _, rfl⟩, by decide +kernel, by decide +kernel⟩
theorem over_eq (x y r : Nat) : p_spec_l03Over R x y r = (R.bin .quo .f32 x r, R.bin .quo .f32 y r) := rfl

/-- the steps: none, or numbers that are not great -/
theorem steps_bk (k : Int) (a b f c d : Nat) : (p_impl_Map_steps R k a b f c d = (0, 0, 0, 0, false) ∧ p_spec_l03Steps R k a b f c d = (0, 0, 0, 0, false)) ∨
    (∃ u0 u1 v0 v1, p_impl_Map_steps R k a b f c d = (u0, u1, v0, v1, true) ∧ p_spec_l03Steps R k a b f c d = (u0, u1, v0, v1, true) ∧ Bk .f32 u0 35 ∧ Bk .f32 u1 35 ∧ Bk .f32 v0 35 ∧ Bk .f32 v1 35) := by
  rcases steps_rel k a b f c d with h | ⟨hp, h24, hm, u0, u1, v0, v1, h1, h2, p, q, r, s, e1, e2, e3, e4, e5, e6⟩
  · exact .inl h
  · right
    obtain ⟨p1, p2', p3, p4⟩ := beside hp h24
    obtain ⟨a1, a2⟩ := point_bk hm p1 e1
    obtain ⟨b1, b2⟩ := point_bk hm p2' e2
    obtain ⟨c1, c2⟩ := point_bk hm p3 e3
    obtain ⟨d1, d2⟩ := point_bk hm p4 e4
    rw [over_eq] at e5 e6
    cases e5
    cases e6
    obtain ⟨w1, w2, w3⟩ := by_bk
    obtain ⟨k1, k2, _⟩ := cos_low h24
    have cq := cos_two (in24_q h24)
    have bw : Bk .f32 1011421147 0 := ⟨w1, by rw [p2_zero]; exact w3, by rw [p2_zero]; have := p2_pos (-7); grind⟩
    have hm2 := bk_mul bw cq (by decide) (by decide)
    have hge := (rd_mul w1 k1).ge (-13) (by decide) hm2.1 (by
      have e : p2 (-13) = p2 (-7) * (1 / 64) := by decide +kernel
      rw [e]
      have i1 : p2 (-7) * (1 / 64) ≤ fv .f32 1011421147 * (1 / 64) := Rat.mul_le_mul_of_nonneg_right w2 (by decide +kernel)
      have i2 : fv .f32 1011421147 * (1 / 64) ≤ fv .f32 1011421147 * fv .f32 (p_spec_l02Cosine R c) := Rat.mul_le_mul_of_nonneg_left k2 (by have := p2_pos (-7); grind)
      exact Rat.le_trans i1 i2)
    have g1 := bk_mono (bk_quo (bk_sub a1 b1 (by decide) (by decide)) hm2.1 hge (by decide) (by decide)) (show (20 + 1 - -13 : Int) ≤ 35 by decide)
    have g2 := bk_mono (bk_quo (bk_sub a2 b2 (by decide) (by decide)) hm2.1 hge (by decide) (by decide)) (show (20 + 1 - -13 : Int) ≤ 35 by decide)
    have g3 := bk_mono (bk_quo (bk_sub c1 d1 (by decide) (by decide)) w1 w2 (by decide) (by decide)) (show (20 + 1 - -7 : Int) ≤ 35 by decide)
    have g4 := bk_mono (bk_quo (bk_sub c2 d2 (by decide) (by decide)) w1 w2 (by decide) (by decide)) (show (20 + 1 - -7 : Int) ≤ 35 by decide)
    refine ⟨_, _, _, _, h1, ?_, g1, g2, g3, g4⟩
    have cf : ∀ {x y : Nat}, Nm .f32 x → Nm .f32 y → p_spec_l01CFinite R x y = true := fun {x y} hx hy => by
      unfold p_spec_l01CFinite; rw [fin_spec, fin_spec, decide_eq_true hx, decide_eq_true hy]; rfl
    rw [h2, cf g1.1 g2.1, cf g3.1 g4.1]; rfl
end Go.Dv
