/- Whole parts, sizes and other widths, by what their operands are worth. No program is in sight. -/
import Derived.Test.YtmhmedbhngmmpaaFx
namespace Go.Cv
open Ieee

theorem nan_not_nm {k : FloatKind} {a : Nat} (h : isNan k a = true) : ¬ Nm k a := by
  intro ⟨s, m, e, hr⟩
  unfold isNan at h
  rw [hr] at h; cases h
theorem nm_not_nan {k : FloatKind} {a : Nat} (h : Nm k a) : isNan k a = false := by
  cases h1 : isNan k a
  · rfl
  · exact absurd h (nan_not_nm h1)

/-! ### sizes -/
theorem abs_nm {a : Nat} (h : Nm .f64 a) : Nm .f64 (R.abs a) ∧ 0 ≤ fv .f64 (R.abs a) ∧ (fv .f64 (R.abs a) = fv .f64 a ∨ fv .f64 (R.abs a) = -(fv .f64 a)) := by
  have hn := nm_not_nan h
  obtain ⟨s, m, e, hr⟩ := h
  have : R.abs a = a % 2 ^ 63 := by
    show fabs a = _
    unfold fabs; rw [hn]; rfl
  have hr2 : FloatKind.f64.format.read (a % 2 ^ 63) = .number false m e := by
    have ef : FloatKind.f64.format = ⟨11, 52⟩ := rfl
    rw [ef] at hr ⊢
    unfold Format.read at hr ⊢
    have eS : Format.signWeight ⟨11, 52⟩ = 2 ^ 63 := by decide
    simp only [eS, Nat.mod_mod] at hr ⊢
    have : a % 2 ^ 63 / 2 ^ 63 = 0 := Nat.div_eq_of_lt (Nat.mod_lt _ (by decide))
    rw [this]
    have h0 : (0 % 2 == 1) = false := rfl
    rw [h0]
    generalize (a / 2 ^ 63 % 2 == 1) = b at hr
    split at hr
    · rename_i hc; rw [if_pos hc]; cases hr; rfl
    · rename_i hc; rw [if_neg hc]
      split at hr
      · rename_i hc; rw [if_pos hc]; cases hr; rfl
      · split at hr <;> cases hr
  rw [this]
  have hg := mg_nonneg m e
  refine ⟨⟨_, _, _, hr2⟩, ?_, ?_⟩ <;> unfold fv <;> rw [hr2]
  · exact hg
  · rw [hr]; cases s
    · exact .inl rfl
    · right; rw [vd_true, vd_false]; grind

/-! ### exact ones -/
theorem nearest_exact (f : Format) (he : 3 ≤ 2 ^ f.exponentBits) (neg : Bool) (m : Nat) (e : Int) (mc : Nat) (ec : Int) (hmc : mc ≤ 2 * f.binade) (hec : f.leastPlace ≤ ec) (hf : mg mc ec < topOf f) (h : mg m e = mg mc ec) :
    ∃ m' e', f.read (f.nearest neg m e) = .number neg m' e' ∧ mg m' e' = mg mc ec := by
  obtain ⟨m', e', hr, hv⟩ := nearest_le f he neg m e mc ec hmc hec hf (by rw [h]; exact Rat.le_refl)
  have := nearest_ge f he neg m e mc ec hmc hec (by rw [h]; exact Rat.le_refl) hr
  exact ⟨m', e', hr, Rat.le_antisymm hv this⟩

def topE : FloatKind → Int
  | .f32 => 104
  | .f64 => 971
theorem top_eq (k : FloatKind) : k.format.leastPlace + ((2 ^ k.format.exponentBits - 2 : Nat) : Int) = topE k + 1 := by cases k <;> decide
theorem top_of {k : FloatKind} {mc : Nat} {ec : Int} (hm : mc ≤ 2 * k.format.binade) (he : ec + 1 ≤ topE k) : mg mc ec < topOf k.format := by
  have h1 : mg mc ec ≤ mg (2 * k.format.binade) ec := mg_le.2 hm
  have hB : 0 < k.format.binade := Nat.two_pow_pos _
  rw [mg_double] at h1
  have h2 : topOf k.format = mg (2 * k.format.binade) (topE k) := by
    rw [mg_double, ← top_eq]; rfl
  have h3 : mg k.format.binade (ec + 1) ≤ mg k.format.binade (topE k) := mg_mono he
  have h4 : mg (k.format.binade + 1) (topE k) ≤ topOf k.format := by rw [h2]; exact mg_le.2 (by omega)
  refine Rat.not_le.1 fun hc => ?_
  have := mg_le.1 (Rat.le_trans h4 (Rat.le_trans hc (Rat.le_trans h1 h3)))
  omega
theorem B32 : 2 * FloatKind.f32.format.binade = 16777216 := by decide
theorem B64 : 2 * FloatKind.f64.format.binade = 9007199254740992 := by decide

/-! ### wider -/
theorem wid_num {a : Nat} {s : Bool} {m : Nat} {e : Int} (hr : FloatKind.f32.format.read a = .number s m e) :
    ∃ m' e', FloatKind.f64.format.read (R.wid a) = .number s m' e' ∧ mg m' e' = mg m e ∧ m < 2 ^ 24 ∧ -149 ≤ e ∧ e ≤ 104 := by
  have hb : m < 2 ^ 24 ∧ -149 ≤ e ∧ e ≤ 104 := by
    rcases read_single a with ⟨s', h⟩ | ⟨s', t, h⟩ | ⟨s', m', e', h, hb⟩
    · rw [h] at hr; cases hr
    · rw [h] at hr; cases hr
    · rw [h] at hr; cases hr; exact hb
  obtain ⟨hb1, hb2, hb3⟩ := hb
  have hn : isNan .f32 a = false := nm_not_nan ⟨_, _, _, hr⟩
  obtain ⟨m', e', hx, hv⟩ := nearest_exact FloatKind.f64.format (exp3 .f64) s m e m e (by rw [B64]; omega) (by rw [least_eq]; show -1074 ≤ e; omega)
    (top_of (by rw [B64]; omega) (by show e + 1 ≤ 971; omega)) rfl
  have : R.wid a = FloatKind.f64.format.nearest s m e := by
    show (fconv .f32 a .f64).getD 0 = _
    unfold fconv floatToFloatBits FloatKind.decode FloatKind.encode Format.write
    rw [hn, hr]
    simp only [hx, Datum.isInfinity]
    rfl
  exact ⟨m', e', by rw [this]; exact hx, hv, hb1, hb2, hb3⟩
theorem wid_nm {a : Nat} (h : Nm .f32 a) : Nm .f64 (R.wid a) ∧ fv .f64 (R.wid a) = fv .f32 a := by
  obtain ⟨s, m, e, hr⟩ := h
  obtain ⟨m', e', hx, hv, _⟩ := wid_num hr
  refine ⟨⟨_, _, _, hx⟩, ?_⟩
  unfold fv; rw [hx, hr]
  cases s <;> simp only [vd_true, vd_false, hv]
theorem wid_inf {a : Nat} {s : Bool} (hr : FloatKind.f32.format.read a = .infinity s) : FloatKind.f64.format.read (R.wid a) = .infinity s := by
  have hn : isNan .f32 a = false := by unfold isNan; rw [hr]; rfl
  have : R.wid a = FloatKind.f64.format.write (.infinity s) := by
    show (fconv .f32 a .f64).getD 0 = _
    unfold fconv floatToFloatBits FloatKind.decode FloatKind.encode
    rw [hn, hr]
    rfl
  rw [this]
  cases s <;> decide
theorem wid_nan {a : Nat} (h : isNan .f32 a = true) : R.wid a = nanOf .f64 := by
  show (fconv .f32 a .f64).getD 0 = _
  unfold fconv
  rw [h]; rfl

theorem not_nm {k : FloatKind} {a : Nat} (h : ¬ Nm k a) : isNan k a = true ∨ ∃ s, k.format.read a = .infinity s := by
  cases hr : k.format.read a with
  | number s m e => exact absurd ⟨_, _, _, hr⟩ h
  | infinity s => exact .inr ⟨s, rfl⟩
  | nan s t => left; unfold isNan; rw [hr]; rfl
instance (k : FloatKind) (a : Nat) : Decidable (Nm k a) :=
  match h : k.format.read a with
  | .number s m e => .isTrue ⟨s, m, e, h⟩
  | .infinity s => .isFalse (by intro ⟨_, _, _, h'⟩; rw [h] at h'; cases h')
  | .nan s t => .isFalse (by intro ⟨_, _, _, h'⟩; rw [h] at h'; cases h')
theorem nm_dec (k : FloatKind) (a : Nat) : Nm k a ∨ ¬ Nm k a := Classical.em _

theorem wid_not_nm {a : Nat} (h : ¬ Nm .f32 a) : ¬ Nm .f64 (R.wid a) := by
  rcases not_nm h with h | ⟨s, h⟩
  · rw [wid_nan h]; exact nan_not_nm (isNan_nanOf _)
  · intro ⟨s', m', e', hr⟩
    rw [wid_inf h] at hr; cases hr

/-- a number less itself is nought; else it is no number -/
theorem self_sub (k : FloatKind) (a : Nat) : R.cmp .eql k (R.bin .sub k a a) 0 = decide (Nm k a) := by
  rcases nm_dec k a with h | h
  · have hd : decide (Nm k a) = true := decide_eq_true h
    rw [hd]
    have hr := rd_sub h h
    have h0 : Nm k 0 := by cases k <;> exact ⟨false, 0, _, rfl⟩
    have hz : fv k 0 = 0 := by cases k <;> decide +kernel
    obtain ⟨hN, _, _⟩ := hr.le 0 (by cases k <;> decide) (by cases k <;> decide) (by rw [Rat.sub_self]; exact p2_nonneg _) (by rw [Rat.sub_self]; exact p2_nonneg _)
    have h1 := hr.pos (by rw [Rat.sub_self]; exact Rat.le_refl) hN
    have h2 := hr.neg (by rw [Rat.sub_self]; exact Rat.le_refl) hN
    rw [eql_nm hN h0, hz]
    exact decide_eq_true (Rat.le_antisymm h2 h1)
  · have hd : decide (Nm k a) = false := decide_eq_false h
    rw [hd]
    have : R.bin .sub k a a = nanOf k := by
      show (k.format.sub a a).getD (nanOf k) = _
      unfold Format.sub
      rcases not_nm h with h | ⟨s, h⟩
      · unfold isNan at h
        cases hr : k.format.read a with
        | nan s t => rfl
        | number s m e => rw [hr] at h; cases h
        | infinity s => rw [hr] at h; cases h
      · rw [h]
        cases s <;> rfl
    rw [this]
    cases k <;> decide

theorem isFinite_wide (a : Nat) : R.cmp .eql .f64 (R.bin .sub .f64 (R.wid a) (R.wid a)) 0 = R.cmp .eql .f32 (R.bin .sub .f32 a a) 0 := by
  rw [self_sub, self_sub]
  rcases nm_dec .f32 a with h | h
  · have := (wid_nm h).1
    simp [h, this]
  · have := wid_not_nm h
    simp [h, this]

/-! ### narrower -/
theorem narOk_of {a : Nat} (h : ∀ s m e, FloatKind.f64.format.read a = .number s m e → ∃ mc ec, mg m e ≤ mg mc ec ∧ mc ≤ 2 ^ 24 ∧ -149 ≤ ec ∧ mg mc ec < topOf FloatKind.f32.format) : R.narOk a = true := by
  show (fconv .f64 a .f32).isSome = true
  unfold fconv floatToFloatBits FloatKind.decode FloatKind.encode
  cases hn : isNan .f64 a
  · cases hr : FloatKind.f64.format.read a with
    | nan s t => unfold isNan at hn; rw [hr] at hn; cases hn
    | infinity s => rfl
    | number s m e =>
      obtain ⟨mc, ec, h1, h2, h3, h4⟩ := h s m e hr
      obtain ⟨m', e', hx, hv⟩ := nearest_le FloatKind.f32.format (exp3 .f32) s m e mc ec (by rw [B32]; exact h2) (by rw [least_eq]; exact h3) h4 h1
      simp only [Format.write, hx, Datum.isInfinity]
      rfl
  · rfl
theorem narOk_bd {a : Nat} (h : Nm .f64 a → fv .f64 a ≤ p2 127 ∧ -(fv .f64 a) ≤ p2 127) : R.narOk a = true := by
  refine narOk_of fun s m e hr => ⟨1, 127, ?_, by decide, by decide, top_gt .f32 (by decide)⟩
  obtain ⟨h1, h2⟩ := h ⟨s, m, e, hr⟩
  unfold fv at h1 h2
  rw [hr] at h1 h2
  rw [← p2_mg]
  cases s
  · exact h1
  · rw [vd_true] at h2; grind

/-! ### whole parts -/
theorem cut_zero_eq (neg : Bool) (n drop : Nat) : Toward.zero.cut neg n drop = n / 2 ^ drop := by
  unfold Toward.cut
  simp only [Nat.one_shiftLeft, Bool.toNat_false, Nat.add_zero]
  by_cases hd : drop ≤ n.log2 + 2
  · rw [Nat.min_eq_left hd]
  · rw [Nat.min_eq_right (by omega)]
    have h1 : n < 2 ^ (n.log2 + 1) := Nat.lt_log2_self
    have h2 : 2 ^ (n.log2 + 1) ≤ 2 ^ drop := Nat.pow_le_pow_right (by decide) (by omega)
    have h3 : 2 ^ (n.log2 + 1) ≤ 2 ^ (n.log2 + 2) := Nat.pow_le_pow_right (by decide) (by omega)
    rw [Nat.div_eq_of_lt (by omega), Nat.div_eq_of_lt (by omega)]

theorem cut_down_le (n drop K : Nat) (neg : Bool) (h : n ≤ K * 2 ^ drop) : Toward.down.cut neg n drop ≤ K := by
  unfold Toward.cut
  simp only [Nat.one_shiftLeft]
  have hb : ∀ b : Bool, b.toNat ≤ 1 := by decide
  by_cases hd : drop ≤ n.log2 + 2
  · rw [Nat.min_eq_left hd]
    have hp : 0 < 2 ^ drop := Nat.two_pow_pos drop
    generalize 2 ^ drop = g at *
    have h1 := Nat.div_add_mod n g
    have h3 : n / g ≤ K := Nat.div_le_of_le_mul (by rw [Nat.mul_comm]; exact h)
    by_cases h4 : n / g = K
    · have h5 : n % g = 0 := by
        rw [h4, Nat.mul_comm] at h1; omega
      rw [h5]
      simpa using h3
    · have := hb (neg && n % g != 0)
      omega
  · rw [Nat.min_eq_right (by omega)]
    have h1 : n < 2 ^ (n.log2 + 1) := Nat.lt_log2_self
    have h2 : 2 ^ (n.log2 + 2) = 2 * 2 ^ (n.log2 + 1) := by rw [Nat.pow_succ, Nat.mul_comm]
    have h3 : n / 2 ^ (n.log2 + 2) = 0 := Nat.div_eq_of_lt (by omega)
    have h4 : n % 2 ^ (n.log2 + 2) = n := Nat.mod_eq_of_lt (by omega)
    rw [h3, h4]
    by_cases h0 : n = 0
    · subst h0; simp
    · have := hb (neg && n != 0)
      have : K ≠ 0 := by intro hk; subst hk; omega
      omega

/-- the digits of a number in units of one -/
theorem units_le (m : Nat) (e : Int) (K : Nat) : mg m e ≤ mg K 0 ↔ m <<< e.toNat ≤ K * 2 ^ (-e).toNat := by
  rw [Nat.shiftLeft_eq]
  by_cases h : 0 ≤ e
  · rw [mg_shift h, mg_le]
    have h1 : (-e).toNat = 0 := by omega
    have h2 : (e - 0).toNat = e.toNat := by omega
    rw [h1, h2]; simp
  · rw [mg_shift (show e ≤ 0 by omega) (m := K), mg_le]
    have h1 : e.toNat = 0 := by omega
    have h2 : (0 - e).toNat = (-e).toNat := by omega
    rw [h1, h2]; simp
theorem le_units (m : Nat) (e : Int) (K : Nat) : mg K 0 ≤ mg m e ↔ K * 2 ^ (-e).toNat ≤ m <<< e.toNat := by
  rw [Nat.shiftLeft_eq]
  by_cases h : 0 ≤ e
  · rw [mg_shift h, mg_le]
    have h1 : (-e).toNat = 0 := by omega
    have h2 : (e - 0).toNat = e.toNat := by omega
    rw [h1, h2]; simp
  · rw [mg_shift (show e ≤ 0 by omega) (m := K), mg_le]
    have h1 : e.toNat = 0 := by omega
    have h2 : (0 - e).toNat = (-e).toNat := by omega
    rw [h1, h2]; simp

/-- the number without its fraction -/
def wholeOf (m : Nat) (e : Int) : Nat := (m <<< e.toNat) / 2 ^ (-e).toNat
theorem wholeOf_le (m : Nat) (e : Int) : mg (wholeOf m e) 0 ≤ mg m e := by
  rw [le_units]
  exact Nat.div_mul_le_self _ _
theorem wholeOf_lt (m : Nat) (e : Int) : mg m e ≤ mg (wholeOf m e + 1) 0 := by
  rw [units_le]
  exact Nat.le_of_lt (by have := Nat.lt_mul_of_div_lt (show (m <<< e.toNat) / 2 ^ (-e).toNat < wholeOf m e + 1 from Nat.lt_succ_self _) (Nat.two_pow_pos _); exact this)

theorem decode_eq (a : Nat) : FloatKind.f64.decode a = FloatKind.f64.format.read a := rfl

theorem trunc_form {a : Nat} {s : Bool} {m : Nat} {e : Int} (hr : FloatKind.f64.format.read a = .number s m e) : R.trunc a = FloatKind.f64.format.nearest s (wholeOf m e) 0 := by
  have hn : isNan .f64 a = false := nm_not_nan ⟨_, _, _, hr⟩
  show ffloor .zero a = _
  unfold ffloor
  rw [hn, decode_eq, hr]
  rw [if_neg (by decide)]
  unfold FloatKind.encode Datum.integral wholeOf
  simp only [cut_zero_eq, Format.write]

theorem mg_nat0 (m : Nat) : mg m 0 = (m : Rat) := by unfold mg; rw [p2_zero]; simp

/-- the fraction that the whole part leaves is no more than one -/
theorem trunc_nm {a : Nat} {s : Bool} {m : Nat} {e : Int} (hr : FloatKind.f64.format.read a = .number s m e) (hb : wholeOf m e ≤ 2 ^ 53) :
    ∃ m' e', FloatKind.f64.format.read (R.trunc a) = .number s m' e' ∧ mg m' e' = (wholeOf m e : Rat) := by
  rw [trunc_form hr]
  obtain ⟨m', e', hx, hv⟩ := nearest_exact FloatKind.f64.format (exp3 .f64) s (wholeOf m e) 0 (wholeOf m e) 0 (by rw [B64]; exact hb) (by decide)
    (top_of (by rw [B64]; exact hb) (by show (0 : Int) + 1 ≤ 971; omega)) rfl
  exact ⟨m', e', hx, by rw [hv, mg_nat0]⟩

end Go.Cv
