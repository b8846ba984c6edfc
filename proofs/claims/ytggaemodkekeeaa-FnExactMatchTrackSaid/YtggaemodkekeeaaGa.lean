/- Ga, Na: merged by merge.py. -/
import Derived.Test.YtggaemodkekeeaaFv
import Derived.Test.YtggaemodkekeeaaQc

/- Bounds of the numbers that the sine and the angle give; that what is narrowed fits. No program is in sight. -/
set_option linter.unusedVariables false
namespace Go.Dv
open Go.Cv
open Ieee

/-- a number no greater than a power of two -/
def Bd (a : Nat) (E : Int) : Prop := Nm .f64 a ∧ fv .f64 a ≤ p2 E ∧ -(fv .f64 a) ≤ p2 E

theorem bd_mono {a : Nat} {E F : Int} (h : Bd a E) (hE : E ≤ F) : Bd a F := by
  have := p2_mono hE
  exact ⟨h.1, by have := h.2.1; grind, by have := h.2.2; grind⟩

theorem mul_bound {x y P Q : Rat} (h1 : x ≤ P) (h2 : -x ≤ P) (h3 : y ≤ Q) (h4 : -y ≤ Q) : x * y ≤ P * Q ∧ -(x * y) ≤ P * Q := by
  have hP : 0 ≤ P := by grind
  have hQ : 0 ≤ Q := by grind
  have a1 : 0 ≤ (P - x) * (Q + y) := Rat.mul_nonneg (by grind) (by grind)
  have a2 : 0 ≤ (P + x) * (Q - y) := Rat.mul_nonneg (by grind) (by grind)
  have a3 : 0 ≤ (P - x) * (Q - y) := Rat.mul_nonneg (by grind) (by grind)
  have a4 : 0 ≤ (P + x) * (Q + y) := Rat.mul_nonneg (by grind) (by grind)
  constructor <;> grind

theorem bd_mul {a b : Nat} {E F : Int} (ha : Bd a E) (hb : Bd b F) (h1 : -1074 ≤ E + F) (h2 : E + F ≤ 1023) : Bd (R.bin .mul .f64 a b) (E + F) := by
  obtain ⟨h3, h4⟩ := mul_bound ha.2.1 ha.2.2 hb.2.1 hb.2.2
  rw [← p2_add] at h3 h4
  exact (rd_mul ha.1 hb.1).le _ h1 h2 h3 h4
theorem p2_succ (E : Int) : p2 (E + 1) = p2 E + p2 E := by
  rw [p2_add]
  have : p2 1 = 2 := by unfold p2; exact Rat.zpow_one _
  rw [this]; grind
theorem bd_sub {a b : Nat} {E : Int} (ha : Bd a E) (hb : Bd b E) (h1 : -1074 ≤ E + 1) (h2 : E + 1 ≤ 1023) : Bd (R.bin .sub .f64 a b) (E + 1) := by
  have := p2_succ E
  have := ha.2.1; have := ha.2.2; have := hb.2.1; have := hb.2.2
  exact (rd_sub ha.1 hb.1).le _ h1 h2 (by grind) (by grind)
theorem bd_quo {a b : Nat} {E D : Int} (ha : Bd a E) (hb : Nm .f64 b) (hD : p2 D ≤ fv .f64 b) (h1 : -1074 ≤ E - D) (h2 : E - D ≤ 1023) : Bd (R.bin .quo .f64 a b) (E - D) := by
  have hp := p2_pos D
  have hb0 : 0 < fv .f64 b := by grind
  have hbn : fv .f64 b ≠ 0 := by grind
  have hE : p2 E = p2 (E - D) * p2 D := by rw [← p2_add]; congr 1; omega
  have hq := p2_nonneg (E - D)
  have h5 : p2 (E - D) * p2 D ≤ p2 (E - D) * fv .f64 b := Rat.mul_le_mul_of_nonneg_left hD hq
  have key : ∀ x : Rat, x ≤ p2 E → x / fv .f64 b ≤ p2 (E - D) := by
    intro x hx
    refine Rat.le_of_mul_le_mul_right ?_ hb0
    rw [Rat.div_mul_cancel hbn]
    grind
  refine (rd_quo ha.1 hb hbn).le _ h1 h2 (key _ ha.2.1) ?_
  have : -(fv .f64 a / fv .f64 b) = (-(fv .f64 a)) / fv .f64 b := by rw [Rat.div_def, Rat.div_def, Rat.neg_mul]
  rw [this]
  exact key _ ha.2.2

theorem neg_mag {a : Nat} {s : Bool} {m : Nat} {e : Int} (hr : FloatKind.f64.format.read a = .number s m e) : ∃ s', FloatKind.f64.format.read (R.neg .f64 a) = .number s' m e := by
  have hn : isNan .f64 a = false := nm_not_nan ⟨_, _, _, hr⟩
  have h1 : isNan .f64 (Op.negFloat .f64 a) = false := by rw [isNan_neg, hn]
  have h2 : R.neg .f64 a = a ^^^ 2 ^ 63 := by
    show fneg .f64 a = _
    unfold fneg
    rw [cn_of_not h1]; rfl
  rw [h2]
  have ef : FloatKind.f64.format = ⟨11, 52⟩ := rfl
  rw [ef] at hr ⊢
  unfold Format.read at hr ⊢
  have eS : Format.signWeight ⟨11, 52⟩ = 2 ^ 63 := by decide
  simp only [eS, xor_pow_mod] at hr ⊢
  refine ⟨(a ^^^ 2 ^ 63) / 2 ^ 63 % 2 == 1, ?_⟩
  · split at hr
    · rename_i hc; rw [if_pos hc]; cases hr; rfl
    · rename_i hc; rw [if_neg hc]
      split at hr
      · rename_i hc; rw [if_pos hc]; cases hr; rfl
      · split at hr <;> cases hr

theorem bd_neg {a : Nat} {E : Int} (h : Bd a E) : Bd (R.neg .f64 a) E := by
  obtain ⟨⟨s, m, e, hr⟩, h1, h2⟩ := h
  obtain ⟨s', hr'⟩ := neg_mag hr
  have hg := mg_nonneg m e
  unfold fv at h1 h2
  rw [hr] at h1 h2
  refine ⟨⟨_, _, _, hr'⟩, ?_, ?_⟩ <;> unfold fv <;> rw [hr'] <;> cases s <;> cases s' <;> simp only [vd_true, vd_false] at * <;> grind
theorem bd_narOk {a : Nat} {E : Int} (h : Bd a E) (hE : E ≤ 127) : R.narOk a = true :=
  narOk_bd fun _ => (bd_mono h hE).2

/-! ### the sine -/

theorem bd_one : Bd 4607182418800017408 0 := ⟨⟨_, _, _, rfl⟩, by decide +kernel, by decide +kernel⟩
theorem bd_half : Bd 4602678819172646912 0 := ⟨⟨_, _, _, rfl⟩, by decide +kernel, by decide +kernel⟩
theorem bd_turn : Bd 4618760256179416344 3 := ⟨⟨_, _, _, rfl⟩, by decide +kernel, by decide +kernel⟩
theorem bd_zero : Bd 0 0 := ⟨⟨_, _, _, rfl⟩, by decide +kernel, by decide +kernel⟩
theorem fv_half : fv .f64 4602678819172646912 = 1 / 2 := by decide +kernel
theorem fv_one : fv .f64 4607182418800017408 = 1 := by decide +kernel
theorem fv_zero : fv .f64 0 = 0 := by decide +kernel

theorem sin_den : ∀ k < 8, Nm .f64 (R.ofi .f64 (2 * ((k : Nat) + 1) * (2 * ((k : Nat) + 1) + 1))) ∧ p2 2 ≤ fv .f64 (R.ofi .f64 (2 * ((k : Nat) + 1) * (2 * ((k : Nat) + 1) + 1))) := by decide +kernel

theorem sinPoly_bd {u : Nat} (hu : Bd u 6) : ∀ (k : Nat), k ≤ 8 → ∀ (p : Nat) (E : Int), 0 ≤ E → E + 5 * k ≤ 100 → Bd p E → Bd (sinPoly R u k p) (E + 5 * k) := by
  intro k
  induction k with
  | zero => intro _ p E _ _ h; simpa [sinPoly] using h
  | succ k ih =>
    intro hk p E h0 h1 h
    unfold sinPoly
    obtain ⟨d1, d2⟩ := sin_den k (by omega)
    have h2 := bd_mul hu h (by omega) (by omega)
    have h3 := bd_quo h2 d1 d2 (by omega) (by omega)
    have h4 := bd_sub (bd_mono bd_one (show 0 ≤ 6 + E - 2 by omega)) h3 (by omega) (by omega)
    have h5 := ih (by omega) _ (6 + E - 2 + 1) (by omega) (by omega) h4
    exact bd_mono h5 (by omega)

theorem sinCore_bd {f : Nat} (h : Bd f 0) : Bd (sinCore R f) 43 := by
  unfold sinCore
  have h1 := bd_mul h bd_turn (by omega) (by omega)
  have h2 := bd_mul h1 h1 (by omega) (by omega)
  have h3 := sinPoly_bd (bd_mono h2 (by omega)) 8 (by omega) 4607182418800017408 0 (by omega) (by omega) bd_one
  exact bd_mono (bd_mul h1 h3 (by omega) (by omega)) (by omega)

theorem sineTail_bd {f : Nat} (h : Nm .f64 f) (h0 : 0 ≤ fv .f64 f) (h1 : fv .f64 f ≤ 1) : Bd (sineTail R f) 43 := by
  have hh : Nm .f64 (sinHalf R f) ∧ 0 ≤ fv .f64 (sinHalf R f) ∧ fv .f64 (sinHalf R f) ≤ 1 := by
    unfold sinHalf
    rw [geq_nm h bd_half.1, fv_half]
    by_cases hc : (1 / 2 : Rat) ≤ fv .f64 f
    · rw [decide_eq_true hc, cond_true]
      have hr := rd_sub h bd_half.1
      rw [fv_half] at hr
      obtain ⟨hN, hl, _⟩ := hr.le 0 (by decide) (by decide) (by rw [p2_zero]; grind) (by rw [p2_zero]; grind)
      rw [p2_zero] at hl
      exact ⟨hN, hr.pos (by grind) hN, hl⟩
    · rw [decide_eq_false hc, cond_false]
      exact ⟨h, h0, h1⟩
  have hq : Bd (sinQuarter R (sinHalf R f)) 0 := by
    obtain ⟨a1, a2, a3⟩ := hh
    unfold sinQuarter
    cases R.cmp .gtr .f64 (sinHalf R f) 4598175219545276416
    · rw [cond_false]
      exact ⟨a1, by rw [p2_zero]; exact a3, by rw [p2_zero]; grind⟩
    · rw [cond_true]
      have hr := rd_sub bd_half.1 a1
      rw [fv_half] at hr
      exact hr.le 0 (by decide) (by decide) (by rw [p2_zero]; grind) (by rw [p2_zero]; grind)
  unfold sineTail
  cases R.cmp .geq .f64 f 4602678819172646912
  · exact sinCore_bd hq
  · exact bd_neg (sinCore_bd hq)

/-! ### fractions -/
def fracW (y w : Nat) : Nat := bif R.cmp .lss .f64 (R.bin .sub .f64 y w) 0 then R.bin .add .f64 (R.bin .sub .f64 y w) 4607182418800017408 else R.bin .sub .f64 y w
def wholeW (y : Nat) : Nat := bif R.cmp .eql .f64 (R.trunc y) 0 then 0 else R.trunc y

theorem fraction_eq (y : Nat) : p_impl_fraction R y = fracW y (wholeW y) := by
  unfold p_impl_fraction p_math_Trunc wholeW fracW
  cases R.cmp .eql .f64 (R.trunc y) 0 <;> rfl

theorem fracW_nm {y w : Nat} (hy : Nm .f64 y) (hw : Nm .f64 w) (h1 : fv .f64 y - fv .f64 w ≤ 1) (h2 : -1 ≤ fv .f64 y - fv .f64 w) : Nm .f64 (fracW y w) ∧ 0 ≤ fv .f64 (fracW y w) ∧ fv .f64 (fracW y w) ≤ 1 := by
  have hr := rd_sub hy hw
  obtain ⟨hN, hl, hg⟩ := hr.le 0 (by decide) (by decide) (by rw [p2_zero]; exact h1) (by rw [p2_zero]; grind)
  rw [p2_zero] at hl hg
  unfold fracW
  rw [lss_nm hN bd_zero.1, fv_zero]
  by_cases hc : fv .f64 (R.bin .sub .f64 y w) < 0
  · rw [decide_eq_true hc, cond_true]
    have hr2 := rd_add hN bd_one.1
    rw [fv_one] at hr2
    obtain ⟨hN2, hl2, hg2⟩ := hr2.le 0 (by decide) (by decide) (by rw [p2_zero]; grind) (by rw [p2_zero]; grind)
    rw [p2_zero] at hl2
    exact ⟨hN2, hr2.pos (by grind) hN2, hl2⟩
  · rw [decide_eq_false hc, cond_false]
    exact ⟨hN, by grind, hl⟩

/-- numbers below 2^52 -/
theorem whole_small {y : Nat} {s : Bool} {m : Nat} {e : Int} (hr : FloatKind.f64.format.read y = .number s m e) (h : mg m e ≤ p2 52) : wholeOf m e ≤ 2 ^ 53 := by
  have h1 := Rat.le_trans (wholeOf_le m e) h
  have h2 : p2 52 = mg (2 ^ 52) 0 := by rw [mg_nat0]; exact p2_nat 52
  rw [h2] at h1
  have := mg_le.1 h1
  omega

theorem wholeW_nm {y : Nat} {s : Bool} {m : Nat} {e : Int} (hr : FloatKind.f64.format.read y = .number s m e) (h : mg m e ≤ p2 52) :
    Nm .f64 (wholeW y) ∧ fv .f64 y - fv .f64 (wholeW y) ≤ 1 ∧ -1 ≤ fv .f64 y - fv .f64 (wholeW y) := by
  have hs := whole_small hr h
  obtain ⟨m', e', hx, hv⟩ := trunc_nm hr hs
  have l1 := wholeOf_le m e
  have l2 := wholeOf_lt m e
  rw [mg_nat0] at l1 l2
  have l3 : ((wholeOf m e + 1 : Nat) : Rat) = (wholeOf m e : Rat) + 1 := by simp
  rw [l3] at l2
  have hT : Nm .f64 (R.trunc y) := ⟨_, _, _, hx⟩
  have hTv : fv .f64 y - fv .f64 (R.trunc y) ≤ 1 ∧ -1 ≤ fv .f64 y - fv .f64 (R.trunc y) := by
    unfold fv; rw [hr, hx]
    cases s <;> simp only [vd_true, vd_false, hv] <;> constructor <;> grind
  unfold wholeW
  rw [eql_nm hT bd_zero.1, fv_zero]
  by_cases hc : fv .f64 (R.trunc y) = 0
  · rw [decide_eq_true hc, cond_true, fv_zero]
    rw [hc] at hTv
    exact ⟨bd_zero.1, hTv⟩
  · rw [decide_eq_false hc, cond_false]
    exact ⟨hT, hTv⟩

theorem fraction_nm {y : Nat} {s : Bool} {m : Nat} {e : Int} (hr : FloatKind.f64.format.read y = .number s m e) (h : mg m e ≤ p2 52) :
    Nm .f64 (fracW y (wholeW y)) ∧ 0 ≤ fv .f64 (fracW y (wholeW y)) ∧ fv .f64 (fracW y (wholeW y)) ≤ 1 := by
  obtain ⟨h1, h2, h3⟩ := wholeW_nm hr h
  exact fracW_nm ⟨_, _, _, hr⟩ h1 h2 h3

/-- the whole part as an integer -/
theorem toi_nm {y : Nat} {s : Bool} {m : Nat} {e : Int} (hr : FloatKind.f64.format.read y = .number s m e) (h : mg m e ≤ p2 52) :
    R.toiOk .f64 y .i64 = true ∧ R.ofi .f64 (R.toi .f64 y .i64) = wholeW y := by
  have hs := whole_small hr h
  obtain ⟨m', e', hx, hv⟩ := trunc_nm hr hs
  have h1 : ftoi .f64 y .i64 = some (signed s (wholeOf m e) 0) := by
    unfold ftoi floatToIntVal
    have h2 : (FloatKind.f64.decode y).toInt .zero = some (signed s (wholeOf m e) 0) := by
      rw [decode_eq, hr]
      unfold Datum.toInt Datum.integral
      simp only [cut_zero_eq]
      rfl
    rw [h2]
    have h3 : IntKind.i64.min ≤ signed s (wholeOf m e) 0 ∧ signed s (wholeOf m e) 0 ≤ IntKind.i64.max := by
      have a1 : IntKind.i64.min = -9223372036854775808 := by decide
      have a2 : IntKind.i64.max = 9223372036854775807 := by decide
      rw [a1, a2]
      unfold signed
      have : wholeOf m e <<< 0 = wholeOf m e := by simp
      rw [this]
      have : wholeOf m e ≤ 9007199254740992 := hs
      split <;> omega
    simp only
    rw [if_pos h3]
  refine ⟨?_, ?_⟩
  · show (ftoi .f64 y .i64).isSome = true
    rw [h1]; rfl
  · show fofi .f64 ((ftoi .f64 y .i64).getD 0) = _
    rw [h1, Option.getD_some]
    unfold fofi
    have hT := trunc_form hr
    have hTN : Nm .f64 (R.trunc y) := ⟨_, _, _, hx⟩
    unfold wholeW
    rw [eql_nm hTN bd_zero.1, fv_zero]
    have h0 : wholeOf m e <<< 0 = wholeOf m e := by simp
    by_cases hz : wholeOf m e = 0
    · have hc : fv .f64 (R.trunc y) = 0 := by
        unfold fv; rw [hx]; rw [hz] at hv
        cases s <;> simp only [vd_true, vd_false, hv] <;> simp
      rw [decide_eq_true hc, cond_true]
      have : signed s (wholeOf m e) 0 = 0 := by unfold signed; rw [h0, hz]; cases s <;> rfl
      rw [this]; decide
    · have hc : ¬ fv .f64 (R.trunc y) = 0 := by
        have : 0 < (wholeOf m e : Rat) := Rat.natCast_pos.2 (by omega)
        unfold fv; rw [hx]
        cases s <;> simp only [vd_true, vd_false, hv] <;> grind
      rw [decide_eq_false hc, cond_false]
      have h5 : floatOfInt .f64 (signed s (wholeOf m e) 0) = R.trunc y := by
        rw [hT]
        unfold floatOfInt FloatKind.nearest FloatKind.encode Format.write
        simp only
        have a1 : (decide (signed s (wholeOf m e) 0 < 0)) = s := by
          unfold signed; rw [h0]
          cases s
          · simp
          · simp; omega
        have a2 : (signed s (wholeOf m e) 0).natAbs = wholeOf m e := by
          unfold signed; rw [h0]
          cases s <;> simp
        rw [a1, a2]
      rw [h5, cn_of_not (nm_not_nan hTN)]

end Go.Dv

/- That what is narrowed fits (part 1). -/
namespace Go.Dv
open Go.Cv
open Ieee

theorem write_inf_not (s : Bool) : ∀ s' m e, FloatKind.f64.format.read (FloatKind.f64.format.write (.infinity s)) ≠ .number s' m e := by
  have h : ∃ t, FloatKind.f64.format.read (FloatKind.f64.format.write (.infinity s)) = .infinity t := by cases s <;> exact ⟨_, rfl⟩
  obtain ⟨t, h⟩ := h
  intro s' m e hc
  rw [h] at hc; cases hc
theorem nan_not (s' : Bool) (m : Nat) (e : Int) : FloatKind.f64.format.read (nanOf .f64) ≠ .number s' m e := by
  intro h
  exact nan_not_nm (isNan_nanOf .f64) ⟨_, _, _, h⟩

/-- a bound of a float32, as a whole number of units -/
theorem f32_top {m : Nat} {e : Int} (h1 : m < 2 ^ 24) (h2 : -149 ≤ e) (h3 : e ≤ 103) : mg m e < topOf FloatKind.f32.format :=
  top_of (by rw [B32]; omega) (by show e + 1 ≤ 104; omega)

theorem read32_e (a : Nat) {s : Bool} {m : Nat} {e : Int} (h : FloatKind.f32.format.read a = .number s m e) : m < 2 ^ 24 ∧ -149 ≤ e ∧ mg m e < topOf FloatKind.f32.format := by
  obtain ⟨_, _, _, _, h1, h2, h3⟩ := wid_num h
  refine ⟨h1, h2, ?_⟩
  by_cases hc : e ≤ 103
  · exact f32_top h1 h2 hc
  · have he : e = 104 := by omega
    subst he
    have h4 : topOf FloatKind.f32.format = mg (2 * FloatKind.f32.format.binade) 104 := by
      rw [mg_double]
      exact congrArg (mg FloatKind.f32.format.binade) (top_eq .f32)
    rw [h4, B32]
    refine Rat.not_le.1 fun hc => ?_
    have := mg_le.1 hc
    omega

theorem floor_fits (a : Nat) : R.narOk (R.floor (R.wid a)) = true := by
  refine narOk_of fun s' m' e' hr' => ?_
  rcases nm_dec .f32 a with ⟨s, m, e, hr⟩ | h
  · obtain ⟨m1, e1, hx, hv, _⟩ := wid_num hr
    obtain ⟨b1, b2, b3⟩ := read32_e a hr
    have hn : isNan .f64 (R.wid a) = false := nm_not_nan ⟨_, _, _, hx⟩
    have hf : R.floor (R.wid a) = FloatKind.f64.format.nearest s (Toward.down.cut s (m1 <<< e1.toNat) (-e1).toNat) 0 := by
      show ffloor .down (R.wid a) = _
      unfold ffloor
      rw [hn, decode_eq, hx]
      rw [if_neg (by decide)]
      unfold FloatKind.encode Datum.integral
      simp only [Format.write]
    rw [hf] at hr'
    by_cases he : 0 ≤ e
    · -- whole already
      have hc : Toward.down.cut s (m1 <<< e1.toNat) (-e1).toNat ≤ m * 2 ^ e.toNat := by
        refine cut_down_le _ _ _ _ ((units_le _ _ _).1 ?_)
        rw [hv, mg_shift he]
        have : (e - 0).toNat = e.toNat := by omega
        rw [this]; exact Rat.le_refl
      have h1 : mg (Toward.down.cut s (m1 <<< e1.toNat) (-e1).toNat) 0 ≤ mg m e := by
        refine Rat.le_trans (mg_le.2 hc) ?_
        rw [mg_shift he]
        have : (e - 0).toNat = e.toNat := by omega
        rw [this]; exact Rat.le_refl
      obtain ⟨m2, e2, hx2, hv2⟩ := nearest_le FloatKind.f64.format (exp3 .f64) s _ 0 m e (by rw [B64]; omega) (by rw [least_eq]; show -1074 ≤ e; omega)
        (top_of (by rw [B64]; omega) (by obtain ⟨_, _, _, _, _, _, h3⟩ := wid_num hr; show e + 1 ≤ 971; omega)) h1
      rw [hr'] at hx2
      cases hx2
      exact ⟨m, e, hv2, by omega, b2, b3⟩
    · have hc : Toward.down.cut s (m1 <<< e1.toNat) (-e1).toNat ≤ m := by
        refine cut_down_le _ _ _ _ ((units_le _ _ _).1 ?_)
        rw [hv]
        exact mg_mono (by omega)
      obtain ⟨m2, e2, hx2, hv2⟩ := nearest_le FloatKind.f64.format (exp3 .f64) s _ 0 m 0 (by rw [B64]; omega) (by decide)
        (top_of (by rw [B64]; omega) (by show (0 : Int) + 1 ≤ 971; omega)) (mg_le.2 hc)
      rw [hr'] at hx2
      cases hx2
      exact ⟨m, 0, hv2, by omega, by omega, f32_top b1 (by omega) (by omega)⟩
  · exfalso
    rcases not_nm h with h | ⟨s, h⟩
    · have hf : R.floor (R.wid a) = nanOf .f64 := by
        rw [wid_nan h]
        show ffloor .down (nanOf .f64) = nanOf .f64
        unfold ffloor
        rw [isNan_nanOf]; rfl
      rw [hf] at hr'
      exact nan_not _ _ _ hr'
    · have hi := wid_inf h
      have hn : isNan .f64 (R.wid a) = false := by unfold isNan; rw [hi]; rfl
      have hf : R.floor (R.wid a) = FloatKind.f64.format.write (.infinity s) := by
        show ffloor .down (R.wid a) = _
        unfold ffloor
        rw [hn, decode_eq, hi]
        rw [if_neg (by decide)]
        unfold FloatKind.encode Datum.integral
        rfl
      rw [hf] at hr'
      exact write_inf_not _ _ _ _ hr'

theorem sqrt_fits (a : Nat) : R.narOk (R.sqrt (R.wid a)) = true := by
  rcases nm_dec .f32 a with ⟨s, m, e, hr⟩ | h
  · obtain ⟨m1, e1, hx, hv, b1, b2, b3⟩ := wid_num hr
    have hb : mg m1 e1 ≤ p2 (2 * 64) := by
      rw [hv, p2_mg]
      refine Rat.le_trans (mg_le.2 (Nat.le_of_lt b1)) ?_
      refine Rat.le_trans (mg_mono b3) ?_
      rw [mg_shift (show (104 : Int) ≤ 2 * 64 by decide) (m := 1)]
      exact mg_le.2 (by decide)
    by_cases h0 : 0 ≤ fv .f64 (R.wid a)
    · have hE : fv .f64 (R.wid a) ≤ p2 (2 * 64) := by
        have g1 := mg_nonneg m1 e1
        unfold fv; rw [hx]
        cases s <;> simp only [vd_true, vd_false] <;> grind
      obtain ⟨c1, c2, c3⟩ := sqrt_nm (a := R.wid a) ⟨_, _, _, hx⟩ h0 hE (by decide) (by decide)
      refine narOk_bd fun _ => ?_
      have := p2_mono (show (64 : Int) ≤ 127 by decide)
      constructor <;> grind
    · have hs : s = true := by
        cases s
        · exfalso; apply h0; unfold fv; rw [hx]; exact mg_nonneg _ _
        · rfl
      subst hs
      have hm : m1 ≠ 0 := by
        intro hm; apply h0; unfold fv; rw [hx, hm, vd_true, mg_zero]; decide
      have : R.sqrt (R.wid a) = nanOf .f64 := by
        show (FloatKind.f64.format.sqrt (R.wid a)).getD (nanOf .f64) = _
        unfold Format.sqrt
        rw [hx]
        simp [Datum.root, hm]
      rw [this]; decide
  · rcases not_nm h with h | ⟨s, h⟩
    · rw [wid_nan h]; decide
    · have hi := wid_inf h
      cases s
      · have : R.sqrt (R.wid a) = FloatKind.f64.format.write (.infinity false) := by
          show (FloatKind.f64.format.sqrt (R.wid a)).getD (nanOf .f64) = _
          unfold Format.sqrt
          rw [hi]; rfl
        rw [this]; decide
      · have : R.sqrt (R.wid a) = nanOf .f64 := by
          show (FloatKind.f64.format.sqrt (R.wid a)).getD (nanOf .f64) = _
          unfold Format.sqrt
          rw [hi]; rfl
        rw [this]; decide

theorem rr_impl_floor (a : Nat) : r_impl_floor R a = true := by
  unfold r_impl_floor p_math_Floor; rw [floor_fits]; rfl
theorem rr_impl_RootNumber (a : Nat) : r_impl_RootNumber R a = true := by
  unfold r_impl_RootNumber p_math_Sqrt; rw [sqrt_fits]; rfl
theorem rr_spec_l01Sqrt (a : Nat) : r_spec_l01Sqrt R a = true := by
  unfold r_spec_l01Sqrt r_spec_l01Narrow p_math_Sqrt; rw [sqrt_fits]; rfl
end Go.Dv
