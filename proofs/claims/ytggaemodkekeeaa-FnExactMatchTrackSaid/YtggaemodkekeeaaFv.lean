/- Fv, Fw, Fx, Fy: merged by merge.py. -/
import Derived.Test.YtggaemodkekeeaaCvA

/- What the words of floats are worth, as fractions; rounding keeps the order. No program is in sight. -/
namespace Go.Cv
open Ieee

/-- a power of two -/
def p2 (e : Int) : Rat := (2 : Rat) ^ e

theorem p2_pos (e : Int) : 0 < p2 e := Rat.zpow_pos (by decide)
theorem p2_nonneg (e : Int) : 0 ≤ p2 e := Rat.le_of_lt (p2_pos e)
theorem p2_add (a b : Int) : p2 (a + b) = p2 a * p2 b := Rat.zpow_add (by decide) a b
theorem p2_nat (n : Nat) : p2 (n : Int) = ((2 ^ n : Nat) : Rat) := by
  unfold p2
  rw [Rat.zpow_natCast, Rat.natCast_pow]
  rfl
theorem p2_zero : p2 0 = 1 := Rat.zpow_zero _
theorem nat_mono {a b : Nat} (h : a ≤ b) : (a : Rat) ≤ (b : Rat) := Rat.natCast_le_natCast.2 h
theorem nat_nonneg (a : Nat) : (0 : Rat) ≤ (a : Rat) := Rat.natCast_nonneg
theorem one_le_p2 {e : Int} (h : 0 ≤ e) : 1 ≤ p2 e := by
  obtain ⟨n, rfl⟩ := Int.eq_ofNat_of_zero_le h
  rw [p2_nat]
  have : (1 : Nat) ≤ 2 ^ n := Nat.one_le_two_pow
  have := nat_mono this
  simpa using this
theorem p2_mono {a b : Int} (h : a ≤ b) : p2 a ≤ p2 b := by
  have e : b = a + (b - a) := by omega
  rw [e, p2_add]
  have h1 : 1 ≤ p2 (b - a) := one_le_p2 (by omega)
  have := Rat.mul_le_mul_of_nonneg_left h1 (p2_nonneg a)
  simpa using this
theorem p2_split {a b : Int} (h : b ≤ a) : p2 a = ((2 ^ (a - b).toNat : Nat) : Rat) * p2 b := by
  have e : a = ((a - b).toNat : Int) + b := by omega
  rw [e, p2_add, p2_nat]
  congr 4
  omega

/-- what a number with digits m at place e is worth -/
def mg (m : Nat) (e : Int) : Rat := (m : Rat) * p2 e
theorem mg_nonneg (m : Nat) (e : Int) : 0 ≤ mg m e := Rat.mul_nonneg (nat_nonneg m) (p2_nonneg e)
theorem mg_shift {m : Nat} {e l : Int} (h : l ≤ e) : mg m e = mg (m * 2 ^ (e - l).toNat) l := by
  unfold mg
  rw [p2_split h, Rat.natCast_mul, Rat.mul_assoc]
theorem mg_le {a b : Nat} {e : Int} : mg a e ≤ mg b e ↔ a ≤ b := by
  unfold mg
  constructor
  · intro h
    exact Rat.natCast_le_natCast.1 (Rat.le_of_mul_le_mul_right h (p2_pos e))
  · intro h
    exact Rat.mul_le_mul_of_nonneg_right (nat_mono h) (p2_nonneg e)
theorem mg_zero (e : Int) : mg 0 e = 0 := by unfold mg; simp
theorem mg_mono {a : Nat} {e l : Int} (h : e ≤ l) : mg a e ≤ mg a l := Rat.mul_le_mul_of_nonneg_left (p2_mono h) (nat_nonneg a)

/-! ### cutting digits -/

theorem cut_le (n drop K : Nat) (neg : Bool) (h : n ≤ K * 2 ^ drop) : Toward.even.cut neg n drop ≤ K := by
  unfold Toward.cut
  simp only [Nat.one_shiftLeft]
  by_cases hd : drop ≤ n.log2 + 2
  · rw [Nat.min_eq_left hd]
    have hp : 0 < 2 ^ drop := Nat.two_pow_pos drop
    generalize 2 ^ drop = g at *
    have h1 := Nat.div_add_mod n g
    have h2 := Nat.mod_lt n hp
    have h3 : n / g ≤ K := Nat.div_le_of_le_mul (by rw [Nat.mul_comm]; exact h)
    by_cases h4 : n / g = K
    · have h5 : n % g = 0 := by
        rw [h4, Nat.mul_comm] at h1; omega
      rw [h5]
      have : (decide (g < 2 * 0) || (g == 2 * 0 && n / g % 2 == 1)) = false := by
        have : g ≠ 0 := by omega
        simp [this]
      rw [this]
      simpa using h3
    · have : ∀ b : Bool, b.toNat ≤ 1 := by decide
      have := this (decide (g < 2 * (n % g)) || (g == 2 * (n % g) && n / g % 2 == 1))
      omega
  · rw [Nat.min_eq_right (by omega)]
    have h1 : n < 2 ^ (n.log2 + 1) := Nat.lt_log2_self
    have h2 : 2 ^ (n.log2 + 2) = 2 * 2 ^ (n.log2 + 1) := by rw [Nat.pow_succ, Nat.mul_comm]
    have h3 : n / 2 ^ (n.log2 + 2) = 0 := Nat.div_eq_of_lt (by omega)
    have h4 : n % 2 ^ (n.log2 + 2) = n := Nat.mod_eq_of_lt (by omega)
    rw [h3, h4]
    have : (decide (2 ^ (n.log2 + 2) < 2 * n) || (2 ^ (n.log2 + 2) == 2 * n && 0 % 2 == 1)) = false := by
      have h5 : ¬ (2 ^ (n.log2 + 2) < 2 * n) := by omega
      simp [h5]
    rw [this]
    simp

theorem le_cut (n drop K : Nat) (neg : Bool) (h : K * 2 ^ drop ≤ n) : K ≤ Toward.even.cut neg n drop := by
  unfold Toward.cut
  simp only [Nat.one_shiftLeft]
  by_cases hd : drop ≤ n.log2 + 2
  · rw [Nat.min_eq_left hd]
    have hp : 0 < 2 ^ drop := Nat.two_pow_pos drop
    have : K ≤ n / 2 ^ drop := (Nat.le_div_iff_mul_le hp).2 h
    omega
  · have h1 : n < 2 ^ (n.log2 + 1) := Nat.lt_log2_self
    have h2 : 2 ^ (n.log2 + 1) ≤ 2 ^ drop := Nat.pow_le_pow_right (by decide) (by omega)
    have : K = 0 := by
      cases K with
      | zero => rfl
      | succ k =>
        have : 2 ^ drop ≤ (k + 1) * 2 ^ drop := Nat.le_mul_of_pos_left _ (by omega)
        omega
    rw [this]; exact Nat.zero_le _

/-! ### reading a rung -/

/-- a number at its rung: digits 'kept' at place 'least + d' -/
theorem read_rung (f : Format) (neg : Bool) (d kept : Nat) (h1 : kept ≤ 2 * f.binade) (h2 : d ≠ 0 → f.binade ≤ kept) (h3 : d * f.binade + kept < f.infRung) :
    ∃ m e, f.read (f.word neg (d * f.binade + kept)) = .number neg m e ∧ mg m e = mg kept (f.leastPlace + d) := by
  have hi := f.infRung_lt
  have hB : 0 < f.binade := Nat.two_pow_pos _
  have hr : f.word neg (d * f.binade + kept) % f.signWeight = d * f.binade + kept := word_rung f neg _ (by omega)
  have hn : (f.word neg (d * f.binade + kept) / f.signWeight % 2 == 1) = neg := by
    unfold Format.word
    have hS : 0 < f.signWeight := Nat.two_pow_pos _
    cases neg
    · simp only [Bool.false_eq_true, if_false]
      rw [Nat.div_eq_of_lt (by omega)]; rfl
    · simp only [if_true]
      rw [Nat.add_div_left _ hS, Nat.div_eq_of_lt (by omega)]
      rfl
  unfold Format.read
  simp only [hr, hn]
  generalize hBB : f.binade = B at *
  by_cases hs : d * B + kept < B
  · rw [if_pos hs]
    refine ⟨_, _, rfl, ?_⟩
    have hd : d = 0 := by
      cases d with
      | zero => rfl
      | succ k => rw [Nat.succ_mul] at hs; omega
    subst hd
    simp
  · rw [if_neg hs, if_pos h3]
    refine ⟨_, _, rfl, ?_⟩
    -- kept is B + x, d+1 binades; or 2B
    by_cases hk : kept = 2 * B
    · subst hk
      have e1 : (d * B + 2 * B) % B = 0 := by rw [← Nat.add_mul]; exact Nat.mul_mod_left _ _
      have e2 : (d * B + 2 * B) / B = d + 2 := by rw [← Nat.add_mul]; exact Nat.mul_div_cancel _ hB
      rw [e1, e2]
      have : f.leastPlace + ((d + 2 - 1 : Nat) : Int) = (f.leastPlace + d) + 1 := by omega
      rw [this, mg_shift (show f.leastPlace + d ≤ f.leastPlace + d + 1 by omega)]
      congr 1
      have : (f.leastPlace + ↑d + 1 - (f.leastPlace + ↑d)).toNat = 1 := by omega
      rw [this]; omega
    · have hkB : B ≤ kept := by
        by_cases hd : d = 0
        · subst hd; omega
        · exact h2 hd
      have hx : kept = B + (kept - B) := by omega
      have hxl : kept - B < B := by omega
      have e0 : d * B + kept = (d + 1) * B + (kept - B) := by rw [Nat.add_mul]; omega
      have e1 : (d * B + kept) % B = kept - B := by
        rw [e0, Nat.add_comm, Nat.add_mul_mod_self_right]; exact Nat.mod_eq_of_lt hxl
      have e2 : (d * B + kept) / B = d + 1 := by
        rw [e0, Nat.add_comm, Nat.add_mul_div_right _ _ hB, Nat.div_eq_of_lt hxl]; omega
      rw [e1, e2, ← hx]
      congr 1

/-! ### rounding -/

theorem nearest_form (f : Format) (neg : Bool) (m : Nat) (e : Int) (hm : m ≠ 0) : ∃ d kept : Nat,
    f.nearest neg m e = f.word neg (min (d * f.binade + kept) f.infRung) ∧ kept ≤ 2 * f.binade ∧ (d ≠ 0 → f.binade ≤ kept) ∧
    (∀ K, mg m e ≤ mg K (f.leastPlace + d) → kept ≤ K) ∧ (∀ K, mg K (f.leastPlace + d) ≤ mg m e → K ≤ kept) ∧ (d ≠ 0 → mg f.binade (f.leastPlace + d) ≤ mg m e) := by
  have hl1 : 2 ^ m.log2 ≤ m := Nat.log2_self_le hm
  have hl2 : m < 2 ^ (m.log2 + 1) := Nat.lt_log2_self
  have key : ∀ last : Int, last = max (e + m.log2 - f.fractionBits) f.leastPlace → ∃ d : Nat, last = f.leastPlace + d ∧ (last - f.leastPlace).toNat = d ∧ (d ≠ 0 → last = e + m.log2 - f.fractionBits) ∧ e + m.log2 - f.fractionBits ≤ last := by
    intro last hlast
    refine ⟨(last - f.leastPlace).toNat, by omega, rfl, by omega, by omega⟩
  generalize hlast : max (e + m.log2 - f.fractionBits) f.leastPlace = last at key
  obtain ⟨d, hd, hd2, hd3, hd4⟩ := key last rfl
  have hform : f.nearest neg m e = f.word neg (min (d * f.binade + Toward.even.cut neg (m <<< (e - last).toNat) (last - e).toNat) f.infRung) := by
    unfold Format.nearest
    rw [if_neg hm]
    simp only [hlast, hd2]
  -- the exact value in units of 'last': (m <<< up) / 2 ^ drop
  have hup : ∀ K, mg m e ≤ mg K last ↔ m <<< (e - last).toNat ≤ K * 2 ^ (last - e).toNat := by
    intro K
    rw [Nat.shiftLeft_eq]
    by_cases h : last ≤ e
    · rw [mg_shift h, mg_le]
      have : (last - e).toNat = 0 := by omega
      rw [this]; simp
    · rw [mg_shift (show e ≤ last by omega) (m := K), mg_le]
      have : (e - last).toNat = 0 := by omega
      rw [this]; simp
  have hdn : ∀ K, mg K last ≤ mg m e ↔ K * 2 ^ (last - e).toNat ≤ m <<< (e - last).toNat := by
    intro K
    rw [Nat.shiftLeft_eq]
    by_cases h : last ≤ e
    · rw [mg_shift h, mg_le]
      have : (last - e).toNat = 0 := by omega
      rw [this]; simp
    · rw [mg_shift (show e ≤ last by omega) (m := K), mg_le]
      have : (e - last).toNat = 0 := by omega
      rw [this]; simp
  have hB : f.binade = 2 ^ f.fractionBits := rfl
  have hm1 : mg m e ≤ mg (2 * f.binade) last := by
    have h1 : mg m e ≤ mg (2 ^ (m.log2 + 1)) e := mg_le.2 (Nat.le_of_lt hl2)
    refine Rat.le_trans h1 ?_
    have h2 : mg (2 ^ (m.log2 + 1)) e = p2 ((m.log2 + 1 : Nat) + e) := by unfold mg; rw [p2_add, p2_nat]
    have h3 : mg (2 * f.binade) last = p2 ((f.fractionBits + 1 : Nat) + last) := by
      unfold mg; rw [p2_add, p2_nat, hB, Nat.pow_succ, Nat.mul_comm]
    rw [h2, h3]
    exact p2_mono (by omega)
  have hm2 : d ≠ 0 → mg f.binade last ≤ mg m e := by
    intro h0
    have h1 : mg (2 ^ m.log2) e ≤ mg m e := mg_le.2 hl1
    refine Rat.le_trans ?_ h1
    have h2 : mg (2 ^ m.log2) e = p2 ((m.log2 : Nat) + e) := by unfold mg; rw [p2_add, p2_nat]
    have h3 : mg f.binade last = p2 ((f.fractionBits : Nat) + last) := by unfold mg; rw [p2_add, p2_nat, hB]
    rw [h2, h3]
    have := hd3 h0
    exact p2_mono (by omega)
  refine ⟨d, _, hform, cut_le _ _ _ _ ((hup _).1 hm1), fun h0 => le_cut _ _ _ _ ((hdn _).1 (hm2 h0)), ?_, ?_, ?_⟩
  · intro K hK; rw [← hd] at hK; exact cut_le _ _ _ _ ((hup _).1 hK)
  · intro K hK; rw [← hd] at hK; exact le_cut _ _ _ _ ((hdn _).1 hK)
  · intro h0; rw [← hd]; exact hm2 h0

/-- where the numbers of a format end -/
def topOf (f : Format) : Rat := mg f.binade (f.leastPlace + ((2 ^ f.exponentBits - 2 : Nat) : Int))

theorem mg_double (a : Nat) (e : Int) : mg (2 * a) e = mg a (e + 1) := by
  rw [mg_shift (show e ≤ e + 1 by omega)]
  have : (e + 1 - e).toNat = 1 := by omega
  rw [this]; congr 1; omega

theorem rung_fits (f : Format) (he : 3 ≤ 2 ^ f.exponentBits) (d kept : Nat) (h1 : kept ≤ 2 * f.binade) (h2 : d ≠ 0 → f.binade ≤ kept) (h : mg kept (f.leastPlace + d) < topOf f) :
    d * f.binade + kept < f.infRung := by
  refine Classical.byContradiction fun hc => ?_
  have hB : 0 < f.binade := Nat.two_pow_pos _
  have hi : f.infRung = (2 ^ f.exponentBits - 1) * f.binade := rfl
  have hge : topOf f ≤ mg kept (f.leastPlace + d) := by
    unfold topOf
    rw [hi] at hc
    generalize 2 ^ f.exponentBits = X at *
    generalize f.binade = B at *
    by_cases hk : kept = 2 * B
    · subst hk
      rw [mg_double]
      refine mg_mono ?_
      have h3 : (X - 1) * B ≤ (d + 2) * B := by rw [Nat.add_mul]; omega
      have := Nat.le_of_mul_le_mul_right h3 hB
      omega
    · have h3 : (X - 1) * B < (d + 2) * B := by rw [Nat.add_mul]; omega
      have h4 := Nat.lt_of_mul_lt_mul_right h3
      have h5 : B ≤ kept := h2 (by omega)
      refine Rat.le_trans (mg_le.2 h5) (mg_mono ?_)
      omega
  exact Rat.not_le.2 h hge

/-- rounding does not pass a number of the format -/
theorem nearest_le (f : Format) (he : 3 ≤ 2 ^ f.exponentBits) (neg : Bool) (m : Nat) (e : Int) (mc : Nat) (ec : Int) (hmc : mc ≤ 2 * f.binade) (hec : f.leastPlace ≤ ec) (hf : mg mc ec < topOf f) (h : mg m e ≤ mg mc ec) :
    ∃ m' e', f.read (f.nearest neg m e) = .number neg m' e' ∧ mg m' e' ≤ mg mc ec := by
  have hB : 0 < f.binade := Nat.two_pow_pos _
  by_cases hm : m = 0
  · subst hm
    have h0 : f.nearest neg 0 e = f.word neg (0 * f.binade + 0) := by unfold Format.nearest; simp
    obtain ⟨m', e', hr, hv⟩ := read_rung f neg 0 0 (by omega) (by simp) (by
      have : f.infRung = (2 ^ f.exponentBits - 1) * f.binade := rfl
      rw [this]
      have : 0 < (2 ^ f.exponentBits - 1) * f.binade := Nat.mul_pos (by omega) hB
      omega)
    refine ⟨m', e', by rw [h0]; exact hr, ?_⟩
    rw [hv, mg_zero]
    exact mg_nonneg _ _
  · obtain ⟨d, kept, hn, h1, h2, h3, h4, h5⟩ := nearest_form f neg m e hm
    have hk : mg kept (f.leastPlace + d) ≤ mg mc ec := by
      by_cases hl : f.leastPlace + d ≤ ec
      · rw [mg_shift hl] at h ⊢
        exact mg_le.2 (h3 _ h)
      · have hd0 : d ≠ 0 := by omega
        have h6 := h5 hd0
        have h7 : mg mc ec ≤ mg f.binade (f.leastPlace + d) := by
          refine Rat.le_trans (mg_le.2 hmc) ?_
          rw [mg_double]
          exact mg_mono (by omega)
        have h8 := h3 f.binade (Rat.le_trans h h7)
        exact Rat.le_trans (mg_le.2 h8) (Rat.le_trans h6 h)
    have hfit := rung_fits f he d kept h1 h2 (by grind)
    rw [hn, Nat.min_eq_left (Nat.le_of_lt hfit)]
    obtain ⟨m', e', hr, hv⟩ := read_rung f neg d kept h1 h2 hfit
    exact ⟨m', e', hr, by rw [hv]; exact hk⟩

theorem nearest_ge (f : Format) (he : 3 ≤ 2 ^ f.exponentBits) (neg : Bool) (m : Nat) (e : Int) (mc : Nat) (ec : Int) (hmc : mc ≤ 2 * f.binade) (hec : f.leastPlace ≤ ec) (h : mg mc ec ≤ mg m e)
    {s : Bool} {m' : Nat} {e' : Int} (hr : f.read (f.nearest neg m e) = .number s m' e') : mg mc ec ≤ mg m' e' := by
  have hB : 0 < f.binade := Nat.two_pow_pos _
  by_cases hm : m = 0
  · subst hm
    rw [mg_zero] at h
    exact Rat.le_trans h (mg_nonneg _ _)
  · obtain ⟨d, kept, hn, h1, h2, h3, h4, h5⟩ := nearest_form f neg m e hm
    have hk : mg mc ec ≤ mg kept (f.leastPlace + d) := by
      by_cases hl : f.leastPlace + d ≤ ec
      · rw [mg_shift hl] at h ⊢
        exact mg_le.2 (h4 _ h)
      · have hd0 : d ≠ 0 := by omega
        have h7 : mg mc ec ≤ mg f.binade (f.leastPlace + d) := by
          refine Rat.le_trans (mg_le.2 hmc) ?_
          rw [mg_double]
          exact mg_mono (by omega)
        exact Rat.le_trans h7 (mg_le.2 (h2 hd0))
    by_cases hfit : d * f.binade + kept < f.infRung
    · rw [hn, Nat.min_eq_left (Nat.le_of_lt hfit)] at hr
      obtain ⟨m'', e'', hr', hv⟩ := read_rung f neg d kept h1 h2 hfit
      rw [hr] at hr'
      cases hr'
      rw [hv]; exact hk
    · exfalso
      rw [hn, Nat.min_eq_right (by omega)] at hr
      unfold Format.read at hr
      have hi := f.infRung_lt
      rw [word_rung _ _ _ hi] at hr
      have : ¬ f.infRung < f.binade := by
        have : f.infRung = (2 ^ f.exponentBits - 1) * f.binade := rfl
        rw [this]
        have : 1 * f.binade ≤ (2 ^ f.exponentBits - 1) * f.binade := Nat.mul_le_mul_right _ (by omega)
        omega
      simp [this] at hr

end Go.Cv

/- What the operations on floats give, by what their operands are worth. No program is in sight. -/
set_option linter.unusedSimpArgs false
namespace Go.Cv
open Ieee

/-- what a datum is worth -/
def vd : Datum → Rat
  | .number s m e => if s then -(mg m e) else mg m e
  | _ => 0
/-- is a word a number -/
def Nm (k : FloatKind) (n : Nat) : Prop := ∃ s m e, k.format.read n = .number s m e
def fv (k : FloatKind) (n : Nat) : Rat := vd (k.format.read n)
def loP : FloatKind → Int
  | .f32 => -149
  | .f64 => -1074
def hiP : FloatKind → Int
  | .f32 => 127
  | .f64 => 1023

theorem least_eq (k : FloatKind) : k.format.leastPlace = loP k := by cases k <;> decide
theorem exp3 (k : FloatKind) : 3 ≤ 2 ^ k.format.exponentBits := by cases k <;> decide
theorem one_le_B (k : FloatKind) : 1 ≤ 2 * k.format.binade := by cases k <;> decide
theorem p2_mg (e : Int) : p2 e = mg 1 e := by unfold mg; simp
theorem top_gt (k : FloatKind) {E : Int} (h : E ≤ hiP k) : mg 1 E < topOf k.format := by
  refine Rat.not_le.1 fun hc => ?_
  have h1 : topOf k.format ≤ mg 1 (hiP k) := Rat.le_trans hc (mg_mono h)
  have : ¬ topOf k.format ≤ mg 1 (hiP k) := by cases k <;> decide +kernel
  exact this h1

/-- the word n is a value v, rounded -/
structure Rd (k : FloatKind) (v : Rat) (n : Nat) : Prop where
  le : ∀ E, loP k ≤ E → E ≤ hiP k → v ≤ p2 E → -v ≤ p2 E → Nm k n ∧ fv k n ≤ p2 E ∧ -(fv k n) ≤ p2 E
  ge : ∀ E, loP k ≤ E → Nm k n → p2 E ≤ v → p2 E ≤ fv k n
  pos : 0 ≤ v → Nm k n → 0 ≤ fv k n
  neg : v ≤ 0 → Nm k n → fv k n ≤ 0

theorem vd_true (m : Nat) (e : Int) : vd (.number true m e) = -(mg m e) := rfl
theorem vd_false (m : Nat) (e : Int) : vd (.number false m e) = mg m e := rfl

theorem nearest_sign (f : Format) (he : 3 ≤ 2 ^ f.exponentBits) (neg : Bool) (m : Nat) (e : Int) {s : Bool} {m' : Nat} {e' : Int} (hr : f.read (f.nearest neg m e) = .number s m' e') : s = neg := by
  have hB : 0 < f.binade := Nat.two_pow_pos _
  by_cases hm : m = 0
  · subst hm
    have h0 : f.nearest neg 0 e = f.word neg (0 * f.binade + 0) := by unfold Format.nearest; simp
    obtain ⟨m2, e2, hr2, hv⟩ := read_rung f neg 0 0 (by omega) (by simp) (by
      have : f.infRung = (2 ^ f.exponentBits - 1) * f.binade := rfl
      rw [this]
      have : 0 < (2 ^ f.exponentBits - 1) * f.binade := Nat.mul_pos (by omega) hB
      omega)
    rw [h0, hr2] at hr
    cases hr; rfl
  · obtain ⟨d, kept, hn, h1, h2, h3, h4, h5⟩ := nearest_form f neg m e hm
    by_cases hfit : d * f.binade + kept < f.infRung
    · rw [hn, Nat.min_eq_left (Nat.le_of_lt hfit)] at hr
      obtain ⟨m2, e2, hr', hv⟩ := read_rung f neg d kept h1 h2 hfit
      rw [hr] at hr'
      cases hr'; rfl
    · exfalso
      rw [hn, Nat.min_eq_right (by omega)] at hr
      unfold Format.read at hr
      have hi := f.infRung_lt
      rw [word_rung _ _ _ hi] at hr
      have : ¬ f.infRung < f.binade := by
        have : f.infRung = (2 ^ f.exponentBits - 1) * f.binade := rfl
        rw [this]
        have : 1 * f.binade ≤ (2 ^ f.exponentBits - 1) * f.binade := Nat.mul_le_mul_right _ (by omega)
        omega
      simp [this] at hr

theorem rd_nearest (k : FloatKind) (s : Bool) (m : Nat) (e : Int) : Rd k (vd (.number s m e)) (k.format.nearest s m e) := by
  have hg := mg_nonneg m e
  refine ⟨?_, ?_, ?_, ?_⟩
  · intro E h1 h2 h3 h4
    have h : mg m e ≤ mg 1 E := by
      rw [← p2_mg]
      cases s
      · rw [vd_false] at h3; exact h3
      · rw [vd_true] at h4; grind
    obtain ⟨m', e', hr, hv⟩ := nearest_le k.format (exp3 k) s m e 1 E (one_le_B k) (by rw [least_eq]; exact h1) (top_gt k h2) h
    rw [← p2_mg] at hv
    have hg' := mg_nonneg m' e'
    refine ⟨⟨_, _, _, hr⟩, ?_, ?_⟩ <;> unfold fv <;> rw [hr] <;> cases s <;> simp only [vd_true, vd_false] <;> grind
  · intro E h1 ⟨s', m', e', hr⟩ h3
    have hs := nearest_sign k.format (exp3 k) s m e hr
    subst hs
    cases s'
    · rw [vd_false] at h3
      have := nearest_ge k.format (exp3 k) false m e 1 E (one_le_B k) (by rw [least_eq]; exact h1) (by rw [← p2_mg]; exact h3) hr
      unfold fv; rw [hr, vd_false, p2_mg]; exact this
    · exfalso
      rw [vd_true] at h3
      have := p2_pos E
      grind
  · intro h ⟨s', m', e', hr⟩
    have hs := nearest_sign k.format (exp3 k) s m e hr
    subst hs
    have hg' := mg_nonneg m' e'
    unfold fv; rw [hr]
    cases s'
    · exact hg'
    · rw [vd_true] at h ⊢
      have h0 : mg m e ≤ 0 := by grind
      have hm : m = 0 := by
        refine Classical.byContradiction fun hm => ?_
        have : mg 1 e ≤ mg m e := mg_le.2 (by omega)
        rw [← p2_mg] at this
        have := p2_pos e
        grind
      subst hm
      have h00 : k.format.nearest true 0 e = k.format.nearest true 0 0 := by unfold Format.nearest; simp
      have : k.format.read (k.format.nearest true 0 0) = .number true 0 (loP k) := by cases k <;> decide
      rw [h00, this] at hr
      cases hr
      rw [mg_zero]; grind
  · intro h ⟨s', m', e', hr⟩
    have hs := nearest_sign k.format (exp3 k) s m e hr
    subst hs
    have hg' := mg_nonneg m' e'
    unfold fv; rw [hr]
    cases s'
    · rw [vd_false] at h ⊢
      have hm : m = 0 := by
        refine Classical.byContradiction fun hm => ?_
        have : mg 1 e ≤ mg m e := mg_le.2 (by omega)
        rw [← p2_mg] at this
        have := p2_pos e
        grind
      subst hm
      have h00 : k.format.nearest false 0 e = k.format.nearest false 0 0 := by unfold Format.nearest; simp
      have : k.format.read (k.format.nearest false 0 0) = .number false 0 (loP k) := by cases k <;> decide
      rw [h00, this] at hr
      cases hr
      rw [mg_zero]; grind
    · rw [vd_true]; grind

/-! ### sums and products -/

theorem signed_val (s : Bool) (m k : Nat) (base : Int) : ((signed s m k : Int) : Rat) * p2 base = vd (.number s m (base + k)) := by
  unfold signed
  have h : mg m (base + k) = ((m <<< k : Nat) : Rat) * p2 base := by
    rw [mg_shift (show base ≤ base + k by omega), Nat.shiftLeft_eq]
    have : (base + ↑k - base).toNat = k := by omega
    rw [this]; rfl
  cases s
  · rw [vd_false, h]
    show (((m <<< k : Nat) : Int) : Rat) * _ = _
    rw [Rat.intCast_natCast]
  · rw [vd_true, h]
    show ((-((m <<< k : Nat) : Int) : Int) : Rat) * _ = _
    rw [Rat.intCast_neg, Rat.intCast_natCast, Rat.neg_mul]

theorem sum_num (s : Bool) (m : Nat) (i : Int) (t : Bool) (n : Nat) (j : Int) : ∃ s' m' e', (Datum.number s m i).sum (.number t n j) = some (.number s' m' e') ∧ vd (.number s' m' e') = vd (.number s m i) + vd (.number t n j) := by
  refine ⟨_, _, _, rfl, ?_⟩
  have h1 := signed_val s m (i - min i j).toNat (min i j)
  have h2 := signed_val t n (j - min i j).toNat (min i j)
  have e1 : min i j + ((i - min i j).toNat : Int) = i := by omega
  have e2 : min i j + ((j - min i j).toNat : Int) = j := by omega
  rw [e1] at h1; rw [e2] at h2
  rw [← h1, ← h2, ← Rat.add_mul, ← Rat.intCast_add]
  generalize signed s m (i - min i j).toNat + signed t n (j - min i j).toNat = T
  by_cases h0 : T = 0
  · subst h0
    simp only [if_pos]
    have : vd (.number (s && t) (Int.natAbs 0) (min i j)) = 0 := by cases s <;> cases t <;> simp [vd, mg]
    rw [this]; simp
  · rw [if_neg h0]
    by_cases hn : T < 0
    · have : (decide (T < 0)) = true := by simp [hn]
      rw [this, vd_true]
      have h3 : ((T.natAbs : Nat) : Int) = -T := by omega
      unfold mg
      rw [← Rat.intCast_natCast, h3]
      simp [Rat.neg_mul]
    · have : (decide (T < 0)) = false := by simp [hn]
      rw [this, vd_false]
      have h3 : ((T.natAbs : Nat) : Int) = T := by omega
      unfold mg
      rw [← Rat.intCast_natCast, h3]

theorem product_num (s : Bool) (m : Nat) (i : Int) (t : Bool) (n : Nat) (j : Int) : (Datum.number s m i).product (.number t n j) = some (.number (s ^^ t) (m * n) (i + j)) ∧ vd (.number (s ^^ t) (m * n) (i + j)) = vd (.number s m i) * vd (.number t n j) := by
  refine ⟨rfl, ?_⟩
  have : mg (m * n) (i + j) = mg m i * mg n j := by
    unfold mg; rw [p2_add, Rat.natCast_mul]; grind
  cases s <;> cases t <;> simp only [vd_true, vd_false, Bool.xor_false, Bool.xor_true, Bool.false_xor, Bool.true_xor, Bool.not_true, Bool.not_false, this] <;> grind

theorem neg_num (s : Bool) (m : Nat) (e : Int) : vd (Datum.number s m e).opposite = -(vd (.number s m e)) := by
  cases s <;> simp [Datum.opposite, vd]

theorem rd_add {k : FloatKind} {a b : Nat} (ha : Nm k a) (hb : Nm k b) : Rd k (fv k a + fv k b) (R.bin .add k a b) := by
  obtain ⟨s, m, i, ha⟩ := ha
  obtain ⟨t, n, j, hb⟩ := hb
  obtain ⟨s', m', e', hs, hv⟩ := sum_num s m i t n j
  have : R.bin .add k a b = k.format.nearest s' m' e' := by
    show (k.format.add a b).getD (nanOf k) = _
    unfold Format.add
    rw [ha, hb, hs]; rfl
  rw [this]; unfold fv; rw [ha, hb, ← hv]
  exact rd_nearest k s' m' e'
theorem rd_sub {k : FloatKind} {a b : Nat} (ha : Nm k a) (hb : Nm k b) : Rd k (fv k a - fv k b) (R.bin .sub k a b) := by
  obtain ⟨s, m, i, ha⟩ := ha
  obtain ⟨t, n, j, hb⟩ := hb
  obtain ⟨s', m', e', hs, hv⟩ := sum_num s m i (!t) n j
  have : R.bin .sub k a b = k.format.nearest s' m' e' := by
    show (k.format.sub a b).getD (nanOf k) = _
    unfold Format.sub
    rw [ha, hb, show (Datum.number t n j).opposite = .number (!t) n j from rfl, hs]; rfl
  have h2 : vd (.number (!t) n j) = -(vd (.number t n j)) := neg_num t n j
  rw [this]; unfold fv; rw [ha, hb, Rat.sub_eq_add_neg, ← h2, ← hv]
  exact rd_nearest k s' m' e'
theorem rd_mul {k : FloatKind} {a b : Nat} (ha : Nm k a) (hb : Nm k b) : Rd k (fv k a * fv k b) (R.bin .mul k a b) := by
  obtain ⟨s, m, i, ha⟩ := ha
  obtain ⟨t, n, j, hb⟩ := hb
  obtain ⟨hs, hv⟩ := product_num s m i t n j
  have : R.bin .mul k a b = k.format.nearest (s ^^ t) (m * n) (i + j) := by
    show (k.format.mul a b).getD (nanOf k) = _
    unfold Format.mul
    rw [ha, hb, hs]; rfl
  rw [this]; unfold fv; rw [ha, hb, ← hv]
  exact rd_nearest k _ _ _

/-! ### order -/

theorem order_num (s : Bool) (m : Nat) (i : Int) (t : Bool) (n : Nat) (j : Int) : (Datum.number s m i).order (.number t n j) = some (if vd (.number s m i) < vd (.number t n j) then .lt else if vd (.number s m i) = vd (.number t n j) then .eq else .gt) := by
  have h1 := signed_val s m (i - min i j).toNat (min i j)
  have h2 := signed_val t n (j - min i j).toNat (min i j)
  have e1 : min i j + ((i - min i j).toNat : Int) = i := by omega
  have e2 : min i j + ((j - min i j).toNat : Int) = j := by omega
  rw [e1] at h1; rw [e2] at h2
  have hd : (Datum.number s m i).order (.number t n j) = some (compare (signed s m (i - min i j).toNat) (signed t n (j - min i j).toNat)) := rfl
  rw [hd, ← h1, ← h2]
  generalize signed s m (i - min i j).toNat = x
  generalize signed t n (j - min i j).toNat = y
  have hp := p2_pos (min i j)
  have l1 : (x : Rat) * p2 (min i j) < (y : Rat) * p2 (min i j) ↔ x < y := by
    rw [Rat.mul_lt_mul_right hp]; exact Rat.intCast_lt_intCast
  have l2 : (x : Rat) * p2 (min i j) = (y : Rat) * p2 (min i j) ↔ x = y := by
    constructor
    · intro h
      have h3 : ¬ x < y := fun h4 => by have := l1.2 h4; grind
      have h4 : ¬ y < x := fun h4 => by
        have : (y : Rat) * p2 (min i j) < (x : Rat) * p2 (min i j) := by
          rw [Rat.mul_lt_mul_right hp]; exact Rat.intCast_lt_intCast.2 h4
        grind
      omega
    · intro h; rw [h]
  simp only [l1, l2]
  show some (compareOfLessAndEq x y) = _
  unfold compareOfLessAndEq
  split <;> rfl

theorem order_nm {k : FloatKind} {a b : Nat} (ha : Nm k a) (hb : Nm k b) : k.format.order a b = some (if fv k a < fv k b then .lt else if fv k a = fv k b then .eq else .gt) := by
  obtain ⟨s, m, i, ha⟩ := ha
  obtain ⟨t, n, j, hb⟩ := hb
  unfold Format.order fv
  rw [ha, hb]
  exact order_num ..

theorem lss_nm {k : FloatKind} {a b : Nat} (ha : Nm k a) (hb : Nm k b) : R.cmp .lss k a b = decide (fv k a < fv k b) := by
  show flt k a b = _
  unfold flt
  rw [order_nm ha hb]
  by_cases h : fv k a < fv k b
  · simp [h]
  · by_cases h2 : fv k a = fv k b <;> simp [h, h2]
theorem gtr_nm {k : FloatKind} {a b : Nat} (ha : Nm k a) (hb : Nm k b) : R.cmp .gtr k a b = decide (fv k b < fv k a) := by
  show fgt k a b = _
  unfold fgt
  rw [order_nm ha hb]
  by_cases h : fv k a < fv k b
  · have : ¬ fv k b < fv k a := by grind
    simp [h, this]
  · by_cases h2 : fv k a = fv k b
    · simp [h2]
    · have : fv k b < fv k a := by grind
      simp [h, h2, this]
theorem leq_nm {k : FloatKind} {a b : Nat} (ha : Nm k a) (hb : Nm k b) : R.cmp .leq k a b = decide (fv k a ≤ fv k b) := by
  show fle k a b = _
  unfold fle
  rw [order_nm ha hb]
  by_cases h : fv k a < fv k b
  · have : fv k a ≤ fv k b := Rat.le_of_lt h
    simp [h, this]
  · by_cases h2 : fv k a = fv k b
    · simp [h2]
    · have : ¬ fv k a ≤ fv k b := by grind
      simp [h, h2, this]
theorem geq_nm {k : FloatKind} {a b : Nat} (ha : Nm k a) (hb : Nm k b) : R.cmp .geq k a b = decide (fv k b ≤ fv k a) := by
  show fge k a b = _
  unfold fge
  rw [order_nm ha hb]
  by_cases h : fv k a < fv k b
  · have : ¬ fv k b ≤ fv k a := by grind
    simp [h, this]
  · by_cases h2 : fv k a = fv k b
    · simp [h2]
    · have : fv k b ≤ fv k a := by grind
      simp [h, h2, this]
theorem eql_nm {k : FloatKind} {a b : Nat} (ha : Nm k a) (hb : Nm k b) : R.cmp .eql k a b = decide (fv k a = fv k b) := by
  show feq k a b = _
  unfold feq
  rw [order_nm ha hb]
  by_cases h : fv k a < fv k b
  · have : ¬ fv k a = fv k b := by grind
    simp [h, this]
  · by_cases h2 : fv k a = fv k b <;> simp [h, h2]

end Go.Cv

/- Quotients, roots, whole parts and other widths, by what their operands are worth. No program is in sight. -/
namespace Go.Cv
open Ieee

theorem mg_pos {m : Nat} {e : Int} (h : m ≠ 0) : 0 < mg m e := by
  have h1 : mg 1 e ≤ mg m e := mg_le.2 (by omega)
  rw [← p2_mg] at h1
  have := p2_pos e
  grind
theorem mg_p2 (n : Nat) (j E : Int) : mg n (j + E) = mg n j * p2 E := by unfold mg; rw [p2_add, Rat.mul_assoc]

theorem quo_mag (digits m n : Nat) (i j : Int) (hn : n ≠ 0) (hd : 1 ≤ digits) :
    let more := digits + n.log2 - m.log2
    let Q := 2 * ((m <<< more) / n) + ((m <<< more) % n != 0).toNat
    (∀ E, mg m i ≤ mg n (j + E) → mg Q (i - j - more - 1) ≤ p2 E) ∧ (∀ E, mg n (j + E) ≤ mg m i → p2 E ≤ mg Q (i - j - more - 1)) := by
  intro more Q
  have hn0 : 0 < n := Nat.pos_of_ne_zero hn
  have hD : mg (m <<< more) (i - more) = mg m i := by
    rw [mg_shift (show i - (more : Int) ≤ i by omega), Nat.shiftLeft_eq]
    congr 3; omega
  have hge : m ≠ 0 → n ≤ m <<< more := by
    intro hm
    have h1 : 2 ^ m.log2 ≤ m := Nat.log2_self_le hm
    have h2 : n < 2 ^ (n.log2 + 1) := Nat.lt_log2_self
    rw [Nat.shiftLeft_eq]
    have h3 : 2 ^ m.log2 * 2 ^ more ≤ m * 2 ^ more := Nat.mul_le_mul_right _ h1
    rw [← Nat.pow_add] at h3
    have h4 : 2 ^ (n.log2 + 1) ≤ 2 ^ (m.log2 + more) := Nat.pow_le_pow_right (by decide) (by show _ ≤ m.log2 + (digits + n.log2 - m.log2); omega)
    omega
  have hQ0 : m = 0 → Q = 0 := by
    intro hm
    have : m <<< more = 0 := by rw [hm]; simp
    show 2 * ((m <<< more) / n) + ((m <<< more) % n != 0).toNat = 0
    rw [this]; simp
  have hQ : Q = 2 * ((m <<< more) / n) + ((m <<< more) % n != 0).toNat := rfl
  generalize m <<< more = D at *
  generalize Q = Q at *
  have e1 : i - (more : Int) = (i - j - more) + j := by omega
  rw [e1] at hD
  generalize i - j - (more : Int) = U at *
  have hdm := Nat.div_add_mod D n
  have hml := Nat.mod_lt D hn0
  have hb : ∀ b : Bool, b.toNat ≤ 1 := by decide
  constructor
  · intro E h
    by_cases hm : m = 0
    · rw [hQ0 hm, mg_zero]; exact p2_nonneg E
    · by_cases hU : U ≤ E
      · rw [← hD, mg_shift (show U + j ≤ j + E by omega), mg_le] at h
        generalize hK : 2 ^ (j + E - (U + j)).toNat = K at h
        have hq : Q ≤ 2 * K := by
          have h1 : D / n ≤ K := Nat.div_le_of_le_mul h
          by_cases h2 : D / n = K
          · have h3 : D % n = 0 := by rw [h2] at hdm; omega
            rw [hQ, h2, h3]; simp
          · have := hb (D % n != 0)
            rw [hQ]; omega
        refine Rat.le_trans (mg_le.2 hq) ?_
        rw [mg_double, p2_mg, mg_shift hU]
        have e2 : U - 1 + 1 = U := by omega
        rw [e2]
        refine mg_le.2 ?_
        rw [← hK, Nat.one_mul]
        exact Nat.pow_le_pow_right (by decide) (by omega)
      · exfalso
        have h1 : mg n (U + j) ≤ mg D (U + j) := mg_le.2 (hge hm)
        rw [hD] at h1
        have h2 : mg (2 * n) (j + E) ≤ mg n (U + j) := by rw [mg_double]; exact mg_mono (by omega)
        have h3 := mg_le.1 (Rat.le_trans h2 (Rat.le_trans h1 h))
        omega
  · intro E h
    have hm : m ≠ 0 := by
      intro h0
      subst h0
      rw [mg_zero] at h
      have := mg_pos (e := j + E) hn
      grind
    by_cases hU : U ≤ E
    · rw [← hD, mg_shift (show U + j ≤ j + E by omega), mg_le] at h
      generalize hK : 2 ^ (j + E - (U + j)).toNat = K at h
      have hq : 2 * K ≤ Q := by
        have h1 : K ≤ D / n := (Nat.le_div_iff_mul_le hn0).2 (by rw [Nat.mul_comm]; exact h)
        rw [hQ]; omega
      refine Rat.le_trans ?_ (mg_le.2 hq)
      rw [mg_double, p2_mg, mg_shift hU]
      have e2 : U - 1 + 1 = U := by omega
      rw [e2]
      refine mg_le.2 ?_
      rw [← hK, Nat.one_mul]
      exact Nat.pow_le_pow_right (by decide) (by omega)
    · have h1 : 1 ≤ D / n := (Nat.le_div_iff_mul_le hn0).2 (by have := hge hm; omega)
      have hq : 2 * 1 ≤ Q := by rw [hQ]; omega
      refine Rat.le_trans ?_ (mg_le.2 hq)
      rw [mg_double, p2_mg]
      exact mg_mono (by omega)

theorem rd_quo {k : FloatKind} {a b : Nat} (ha : Nm k a) (hb : Nm k b) (h0 : fv k b ≠ 0) : Rd k (fv k a / fv k b) (R.bin .quo k a b) := by
  obtain ⟨s, m, i, ha⟩ := ha
  obtain ⟨t, n, j, hb⟩ := hb
  have hn : n ≠ 0 := by
    intro h; apply h0; unfold fv; rw [hb, h]; cases t <;> simp [vd, mg]
  obtain ⟨qa, qb⟩ := quo_mag (k.format.fractionBits + 2) m n i j hn (by omega)
  have : R.bin .quo k a b = k.format.nearest (s ^^ t) (2 * ((m <<< (k.format.fractionBits + 2 + n.log2 - m.log2)) / n) + ((m <<< (k.format.fractionBits + 2 + n.log2 - m.log2)) % n != 0).toNat) (i - j - ((k.format.fractionBits + 2 + n.log2 - m.log2 : Nat) : Int) - 1) := by
    show (k.format.div a b).getD (nanOf k) = _
    unfold Format.div
    rw [ha, hb]
    simp only [Datum.quotient, if_neg hn]
    rfl
  rw [this]
  generalize 2 * ((m <<< (k.format.fractionBits + 2 + n.log2 - m.log2)) / n) + ((m <<< (k.format.fractionBits + 2 + n.log2 - m.log2)) % n != 0).toNat = Q at *
  generalize i - j - ((k.format.fractionBits + 2 + n.log2 - m.log2 : Nat) : Int) - 1 = P at *
  have hr := rd_nearest k (s ^^ t) Q P
  -- the size of the quotient
  have hnp : 0 < mg n j := mg_pos hn
  have hx : ∃ X : Rat, 0 ≤ X ∧ mg m i = X * mg n j ∧ fv k a / fv k b = if (s ^^ t) then -X else X := by
    refine ⟨mg m i / mg n j, by rw [Rat.div_def]; exact Rat.mul_nonneg (mg_nonneg _ _) (Rat.le_of_lt (Rat.inv_pos.2 hnp)), by rw [Rat.div_mul_cancel (by grind)], ?_⟩
    have hne : mg n j ≠ 0 := by grind
    have hinv : (-(mg n j))⁻¹ = -(mg n j)⁻¹ := by grind
    unfold fv; rw [ha, hb]
    cases s <;> cases t <;> simp [vd, Rat.div_def, Rat.neg_mul, Rat.mul_neg, hinv]
  obtain ⟨X, hX0, hX1, hX2⟩ := hx
  rw [hX2]
  clear this hX2 ha hb
  generalize (s ^^ t) = σ at *
  have A : ∀ E, X ≤ p2 E → mg Q P ≤ p2 E := by
    intro E h
    refine qa E ?_
    rw [hX1, mg_p2, Rat.mul_comm]
    exact Rat.mul_le_mul_of_nonneg_left h (Rat.le_of_lt hnp)
  have B : ∀ E, p2 E ≤ X → p2 E ≤ mg Q P := by
    intro E h
    refine qb E ?_
    rw [hX1, mg_p2, Rat.mul_comm]
    exact Rat.mul_le_mul_of_nonneg_right h (Rat.le_of_lt hnp)
  have hg := mg_nonneg Q P
  refine ⟨?_, ?_, ?_, ?_⟩
  · intro E h1 h2 h3 h4
    have h5 : X ≤ p2 E := by cases σ <;> simp only [if_true, if_false, Bool.false_eq_true] at h3 h4 <;> grind
    have h6 := A E h5
    refine hr.le E h1 h2 ?_ ?_ <;> cases σ <;> simp only [vd_true, vd_false] <;> grind
  · intro E h1 h2 h3
    refine hr.ge E h1 h2 ?_
    have hp := p2_pos E
    cases σ <;> simp only [if_true, if_false, Bool.false_eq_true] at h3
    · exact B E h3
    · exfalso; grind
  · intro h1 h2
    cases σ <;> simp only [if_true, if_false, Bool.false_eq_true] at h1
    · exact hr.pos hg h2
    · have hX : X = 0 := by grind
      have hm : mg m i = 0 := by rw [hX1, hX]; simp
      have h7 : mg Q P = 0 := by
        refine Rat.le_antisymm ?_ hg
        refine Classical.byContradiction fun hc => ?_
        -- Q = 0 as every power of two is above it
        have h8 : mg Q P ≤ p2 (P - 1) := A (P - 1) (by rw [hX]; exact p2_nonneg _)
        have h9 : Q ≠ 0 := by intro h; rw [h, mg_zero] at hc; exact hc Rat.le_refl
        have h10 : mg 1 P ≤ mg Q P := mg_le.2 (by omega)
        have h11 : mg 1 P = mg 2 (P - 1) := by
          have := mg_double 1 (P - 1)
          rw [show P - 1 + 1 = P by omega] at this
          exact this.symm
        rw [p2_mg] at h8
        rw [h11] at h10
        have := mg_le.1 (Rat.le_trans h10 h8)
        omega
      refine hr.pos ?_ h2
      rw [vd_true, h7]; grind
  · intro h1 h2
    cases σ <;> simp only [if_true, if_false, Bool.false_eq_true] at h1
    · have hX : X = 0 := by grind
      have h7 : mg Q P = 0 := by
        refine Rat.le_antisymm ?_ hg
        refine Classical.byContradiction fun hc => ?_
        have h8 : mg Q P ≤ p2 (P - 1) := A (P - 1) (by rw [hX]; exact p2_nonneg _)
        have h9 : Q ≠ 0 := by intro h; rw [h, mg_zero] at hc; exact hc Rat.le_refl
        have h10 : mg 1 P ≤ mg Q P := mg_le.2 (by omega)
        have h11 : mg 1 P = mg 2 (P - 1) := by
          have := mg_double 1 (P - 1)
          rw [show P - 1 + 1 = P by omega] at this
          exact this.symm
        rw [p2_mg] at h8
        rw [h11] at h10
        have := mg_le.1 (Rat.le_trans h10 h8)
        omega
      refine hr.neg ?_ h2
      rw [vd_false, h7]; grind
    · refine hr.neg ?_ h2
      rw [vd_true]; grind

/-! ### roots -/

theorem rootFrom_le (n : Nat) : ∀ todo root, root * root ≤ n → Datum.rootFrom n todo root * Datum.rootFrom n todo root ≤ n := by
  intro todo
  induction todo with
  | zero => intro root h; exact h
  | succ k ih =>
    intro root h
    unfold Datum.rootFrom
    simp only
    refine ih _ ?_
    split
    · assumption
    · exact h

theorem sqrt_nm {a : Nat} (ha : Nm .f64 a) (h0 : 0 ≤ fv .f64 a) {E : Int} (hE : fv .f64 a ≤ p2 (2 * E)) (h1 : -1074 ≤ E) (h2 : E ≤ 1023) :
    Nm .f64 (R.sqrt a) ∧ 0 ≤ fv .f64 (R.sqrt a) ∧ fv .f64 (R.sqrt a) ≤ p2 E := by
  obtain ⟨s, m, i, hr⟩ := ha
  have hv : fv .f64 a = vd (.number s m i) := by unfold fv; rw [hr]
  rw [hv] at h0 hE
  by_cases hm : m = 0
  · have : R.sqrt a = FloatKind.f64.format.nearest s m i := by
      show (FloatKind.f64.format.sqrt a).getD (nanOf .f64) = _
      unfold Format.sqrt
      rw [hr]
      simp [Datum.root, hm, Format.write]
    rw [this]
    have hR := rd_nearest .f64 s m i
    have hz : vd (.number s m i) = 0 := by rw [hm]; cases s <;> simp [vd, mg]
    rw [hz] at hR
    have hp := p2_nonneg E
    obtain ⟨hN, hl, hg⟩ := hR.le E h1 h2 hp (by grind)
    exact ⟨hN, hR.pos Rat.le_refl hN, hl⟩
  · have hs : s = false := by
      cases s
      · rfl
      · exfalso
        rw [vd_true] at h0
        have := mg_pos (e := i) hm
        grind
    subst hs
    rw [vd_false] at h0 hE
    obtain ⟨more, hmore, hev⟩ : ∃ more : Nat, more = 2 * (FloatKind.f64.format.fractionBits + 2) - m.log2 + ((i - ((2 * (FloatKind.f64.format.fractionBits + 2) - m.log2 : Nat) : Int)) % 2).toNat ∧ (i - (more : Int)) % 2 = 0 := by
      refine ⟨_, rfl, ?_⟩
      generalize 2 * (FloatKind.f64.format.fractionBits + 2) - m.log2 = z
      omega
    have hform : R.sqrt a = FloatKind.f64.format.nearest false (2 * Datum.rootFrom (m <<< more) ((m <<< more).log2 / 2 + 1) 0 + (Datum.rootFrom (m <<< more) ((m <<< more).log2 / 2 + 1) 0 * Datum.rootFrom (m <<< more) ((m <<< more).log2 / 2 + 1) 0 != (m <<< more)).toNat) ((i - more) / 2 - 1) := by
      show (FloatKind.f64.format.sqrt a).getD (nanOf .f64) = _
      unfold Format.sqrt
      rw [hr, hmore]
      simp only [Datum.root, if_neg hm]
      rfl
    rw [hform]
    have hw := rootFrom_le (m <<< more) ((m <<< more).log2 / 2 + 1) 0 (Nat.zero_le _)
    generalize Datum.rootFrom (m <<< more) ((m <<< more).log2 / 2 + 1) 0 = W at *
    have hD : mg (m <<< more) (i - more) = mg m i := by
      rw [mg_shift (show i - (more : Int) ≤ i by omega), Nat.shiftLeft_eq]
      congr 3; omega
    have hDpos : m <<< more ≠ 0 := by
      rw [Nat.shiftLeft_eq]
      have := Nat.two_pow_pos more
      exact Nat.mul_ne_zero hm (by omega)
    generalize m <<< more = D at *
    obtain ⟨U, hU⟩ : ∃ U : Int, i - more = 2 * U := ⟨(i - more) / 2, by omega⟩
    have hU2 : (i - (more : Int)) / 2 = U := by omega
    rw [hU2]
    rw [hU] at hD
    rw [← hD, p2_mg] at hE
    have hUE : U ≤ E := by
      refine Classical.byContradiction fun hc => ?_
      have h3 : mg 1 (2 * U) ≤ mg D (2 * U) := mg_le.2 (by omega)
      have h4 : mg 2 (2 * E) ≤ mg 1 (2 * U) := by
        have : mg 2 (2 * E) = mg 1 (2 * E + 1) := mg_double 1 _
        rw [this]; exact mg_mono (by omega)
      have := mg_le.1 (Rat.le_trans h4 (Rat.le_trans h3 hE))
      omega
    obtain ⟨d, hd⟩ := Int.eq_ofNat_of_zero_le (show 0 ≤ E - U by omega)
    have hDK : D ≤ 2 ^ d * 2 ^ d := by
      rw [mg_shift (show 2 * U ≤ 2 * E by omega), mg_le, Nat.one_mul] at hE
      have : (2 * E - 2 * U).toNat = d + d := by omega
      rw [this, Nat.pow_add] at hE
      exact hE
    have hWK : 2 * W + (W * W != D).toNat ≤ 2 * 2 ^ d := by
      generalize 2 ^ d = K at *
      have hWle : W ≤ K := by
        refine Classical.byContradiction fun hc => ?_
        have : (K + 1) * (K + 1) ≤ W * W := Nat.mul_le_mul (by omega) (by omega)
        have : (K + 1) * (K + 1) = K * K + 2 * K + 1 := by grind
        omega
      by_cases h5 : W = K
      · subst h5
        have : W * W = D := by omega
        simp [this]
      · have hb : ∀ b : Bool, b.toNat ≤ 1 := by decide
        have := hb (W * W != D)
        omega
    have hfin : mg (2 * W + (W * W != D).toNat) (U - 1) ≤ p2 E := by
      refine Rat.le_trans (mg_le.2 hWK) ?_
      rw [mg_double, p2_mg, show U - 1 + 1 = U by omega, mg_shift hUE, Nat.one_mul]
      refine mg_le.2 ?_
      have : (E - U).toNat = d := by omega
      rw [this]
      exact Nat.le_refl _
    have hR := rd_nearest .f64 false (2 * W + (W * W != D).toNat) (U - 1)
    have hg := mg_nonneg (2 * W + (W * W != D).toNat) (U - 1)
    rw [vd_false] at hR
    obtain ⟨hN, hl, hg'⟩ := hR.le E h1 h2 hfin (by have := p2_nonneg E; grind)
    exact ⟨hN, hR.pos hg hN, hl⟩

end Go.Cv

/- Whole parts, sizes and other widths, by what their operands are worth. No program is in sight. -/
namespace Go.Cv
open Ieee

theorem nan_not_nm {k : FloatKind} {a : Nat} (h : isNan k a = true) : ¬ Nm k a := by
  intro ⟨s, m, e, hr⟩
  unfold isNan at h
  rw [hr] at h; cases h
theorem nm_not_nan {k : FloatKind} {a : Nat} (h : Nm k a) : isNan k a = false := by
  cases h1 : isNan k a
  · rfl
  · exact absurd h (nan_not_nm h1)

/-! ### sizes -/
theorem abs_nm {a : Nat} (h : Nm .f64 a) : Nm .f64 (R.abs a) ∧ 0 ≤ fv .f64 (R.abs a) ∧ (fv .f64 (R.abs a) = fv .f64 a ∨ fv .f64 (R.abs a) = -(fv .f64 a)) := by
  have hn := nm_not_nan h
  obtain ⟨s, m, e, hr⟩ := h
  have : R.abs a = a % 2 ^ 63 := by
    show fabs a = _
    unfold fabs; rw [hn]; rfl
  have hr2 : FloatKind.f64.format.read (a % 2 ^ 63) = .number false m e := by
    have ef : FloatKind.f64.format = ⟨11, 52⟩ := rfl
    rw [ef] at hr ⊢
    unfold Format.read at hr ⊢
    have eS : Format.signWeight ⟨11, 52⟩ = 2 ^ 63 := by decide
    simp only [eS, Nat.mod_mod] at hr ⊢
    have : a % 2 ^ 63 / 2 ^ 63 = 0 := Nat.div_eq_of_lt (Nat.mod_lt _ (by decide))
    rw [this]
    have h0 : (0 % 2 == 1) = false := rfl
    rw [h0]
    generalize (a / 2 ^ 63 % 2 == 1) = b at hr
    split at hr
    · rename_i hc; rw [if_pos hc]; cases hr; rfl
    · rename_i hc; rw [if_neg hc]
      split at hr
      · rename_i hc; rw [if_pos hc]; cases hr; rfl
      · split at hr <;> cases hr
  rw [this]
  have hg := mg_nonneg m e
  refine ⟨⟨_, _, _, hr2⟩, ?_, ?_⟩ <;> unfold fv <;> rw [hr2]
  · exact hg
  · rw [hr]; cases s
    · exact .inl rfl
    · right; rw [vd_true, vd_false]; grind

/-! ### exact ones -/
theorem nearest_exact (f : Format) (he : 3 ≤ 2 ^ f.exponentBits) (neg : Bool) (m : Nat) (e : Int) (mc : Nat) (ec : Int) (hmc : mc ≤ 2 * f.binade) (hec : f.leastPlace ≤ ec) (hf : mg mc ec < topOf f) (h : mg m e = mg mc ec) :
    ∃ m' e', f.read (f.nearest neg m e) = .number neg m' e' ∧ mg m' e' = mg mc ec := by
  obtain ⟨m', e', hr, hv⟩ := nearest_le f he neg m e mc ec hmc hec hf (by rw [h]; exact Rat.le_refl)
  have := nearest_ge f he neg m e mc ec hmc hec (by rw [h]; exact Rat.le_refl) hr
  exact ⟨m', e', hr, Rat.le_antisymm hv this⟩

def topE : FloatKind → Int
  | .f32 => 104
  | .f64 => 971
theorem top_eq (k : FloatKind) : k.format.leastPlace + ((2 ^ k.format.exponentBits - 2 : Nat) : Int) = topE k + 1 := by cases k <;> decide
theorem top_of {k : FloatKind} {mc : Nat} {ec : Int} (hm : mc ≤ 2 * k.format.binade) (he : ec + 1 ≤ topE k) : mg mc ec < topOf k.format := by
  have h1 : mg mc ec ≤ mg (2 * k.format.binade) ec := mg_le.2 hm
  have hB : 0 < k.format.binade := Nat.two_pow_pos _
  rw [mg_double] at h1
  have h2 : topOf k.format = mg (2 * k.format.binade) (topE k) := by
    rw [mg_double, ← top_eq]; rfl
  have h3 : mg k.format.binade (ec + 1) ≤ mg k.format.binade (topE k) := mg_mono he
  have h4 : mg (k.format.binade + 1) (topE k) ≤ topOf k.format := by rw [h2]; exact mg_le.2 (by omega)
  refine Rat.not_le.1 fun hc => ?_
  have := mg_le.1 (Rat.le_trans h4 (Rat.le_trans hc (Rat.le_trans h1 h3)))
  omega
theorem B32 : 2 * FloatKind.f32.format.binade = 16777216 := by decide
theorem B64 : 2 * FloatKind.f64.format.binade = 9007199254740992 := by decide

/-! ### wider -/
theorem wid_num {a : Nat} {s : Bool} {m : Nat} {e : Int} (hr : FloatKind.f32.format.read a = .number s m e) :
    ∃ m' e', FloatKind.f64.format.read (R.wid a) = .number s m' e' ∧ mg m' e' = mg m e ∧ m < 2 ^ 24 ∧ -149 ≤ e ∧ e ≤ 104 := by
  have hb : m < 2 ^ 24 ∧ -149 ≤ e ∧ e ≤ 104 := by
    rcases read_single a with ⟨s', h⟩ | ⟨s', t, h⟩ | ⟨s', m', e', h, hb⟩
    · rw [h] at hr; cases hr
    · rw [h] at hr; cases hr
    · rw [h] at hr; cases hr; exact hb
  obtain ⟨hb1, hb2, hb3⟩ := hb
  have hn : isNan .f32 a = false := nm_not_nan ⟨_, _, _, hr⟩
  obtain ⟨m', e', hx, hv⟩ := nearest_exact FloatKind.f64.format (exp3 .f64) s m e m e (by rw [B64]; omega) (by rw [least_eq]; show -1074 ≤ e; omega)
    (top_of (by rw [B64]; omega) (by show e + 1 ≤ 971; omega)) rfl
  have : R.wid a = FloatKind.f64.format.nearest s m e := by
    show (fconv .f32 a .f64).getD 0 = _
    unfold fconv floatToFloatBits FloatKind.decode FloatKind.encode Format.write
    rw [hn, hr]
    simp only [hx, Datum.isInfinity]
    rfl
  exact ⟨m', e', by rw [this]; exact hx, hv, hb1, hb2, hb3⟩
theorem wid_nm {a : Nat} (h : Nm .f32 a) : Nm .f64 (R.wid a) ∧ fv .f64 (R.wid a) = fv .f32 a := by
  obtain ⟨s, m, e, hr⟩ := h
  obtain ⟨m', e', hx, hv, _⟩ := wid_num hr
  refine ⟨⟨_, _, _, hx⟩, ?_⟩
  unfold fv; rw [hx, hr]
  cases s <;> simp only [vd_true, vd_false, hv]
theorem wid_inf {a : Nat} {s : Bool} (hr : FloatKind.f32.format.read a = .infinity s) : FloatKind.f64.format.read (R.wid a) = .infinity s := by
  have hn : isNan .f32 a = false := by unfold isNan; rw [hr]; rfl
  have : R.wid a = FloatKind.f64.format.write (.infinity s) := by
    show (fconv .f32 a .f64).getD 0 = _
    unfold fconv floatToFloatBits FloatKind.decode FloatKind.encode
    rw [hn, hr]
    rfl
  rw [this]
  cases s <;> decide
theorem wid_nan {a : Nat} (h : isNan .f32 a = true) : R.wid a = nanOf .f64 := by
  show (fconv .f32 a .f64).getD 0 = _
  unfold fconv
  rw [h]; rfl

theorem not_nm {k : FloatKind} {a : Nat} (h : ¬ Nm k a) : isNan k a = true ∨ ∃ s, k.format.read a = .infinity s := by
  cases hr : k.format.read a with
  | number s m e => exact absurd ⟨_, _, _, hr⟩ h
  | infinity s => exact .inr ⟨s, rfl⟩
  | nan s t => left; unfold isNan; rw [hr]; rfl
instance (k : FloatKind) (a : Nat) : Decidable (Nm k a) :=
  match h : k.format.read a with
  | .number s m e => .isTrue ⟨s, m, e, h⟩
  | .infinity s => .isFalse (by intro ⟨_, _, _, h'⟩; rw [h] at h'; cases h')
  | .nan s t => .isFalse (by intro ⟨_, _, _, h'⟩; rw [h] at h'; cases h')
theorem nm_dec (k : FloatKind) (a : Nat) : Nm k a ∨ ¬ Nm k a := Classical.em _

theorem wid_not_nm {a : Nat} (h : ¬ Nm .f32 a) : ¬ Nm .f64 (R.wid a) := by
  rcases not_nm h with h | ⟨s, h⟩
  · rw [wid_nan h]; exact nan_not_nm (isNan_nanOf _)
  · intro ⟨s', m', e', hr⟩
    rw [wid_inf h] at hr; cases hr

/-- a number less itself is nought; else it is no number -/
theorem self_sub (k : FloatKind) (a : Nat) : R.cmp .eql k (R.bin .sub k a a) 0 = decide (Nm k a) := by
  rcases nm_dec k a with h | h
  · have hd : decide (Nm k a) = true := decide_eq_true h
    rw [hd]
    have hr := rd_sub h h
    have h0 : Nm k 0 := by cases k <;> exact ⟨false, 0, _, rfl⟩
    have hz : fv k 0 = 0 := by cases k <;> decide +kernel
    obtain ⟨hN, _, _⟩ := hr.le 0 (by cases k <;> decide) (by cases k <;> decide) (by rw [Rat.sub_self]; exact p2_nonneg _) (by rw [Rat.sub_self]; exact p2_nonneg _)
    have h1 := hr.pos (by rw [Rat.sub_self]; exact Rat.le_refl) hN
    have h2 := hr.neg (by rw [Rat.sub_self]; exact Rat.le_refl) hN
    rw [eql_nm hN h0, hz]
    exact decide_eq_true (Rat.le_antisymm h2 h1)
  · have hd : decide (Nm k a) = false := decide_eq_false h
    rw [hd]
    have : R.bin .sub k a a = nanOf k := by
      show (k.format.sub a a).getD (nanOf k) = _
      unfold Format.sub
      rcases not_nm h with h | ⟨s, h⟩
      · unfold isNan at h
        cases hr : k.format.read a with
        | nan s t => rfl
        | number s m e => rw [hr] at h; cases h
        | infinity s => rw [hr] at h; cases h
      · rw [h]
        cases s <;> rfl
    rw [this]
    cases k <;> decide

/-! ### narrower -/
theorem narOk_of {a : Nat} (h : ∀ s m e, FloatKind.f64.format.read a = .number s m e → ∃ mc ec, mg m e ≤ mg mc ec ∧ mc ≤ 2 ^ 24 ∧ -149 ≤ ec ∧ mg mc ec < topOf FloatKind.f32.format) : R.narOk a = true := by
  show (fconv .f64 a .f32).isSome = true
  unfold fconv floatToFloatBits FloatKind.decode FloatKind.encode
  cases hn : isNan .f64 a
  · cases hr : FloatKind.f64.format.read a with
    | nan s t => unfold isNan at hn; rw [hr] at hn; cases hn
    | infinity s => rfl
    | number s m e =>
      obtain ⟨mc, ec, h1, h2, h3, h4⟩ := h s m e hr
      obtain ⟨m', e', hx, hv⟩ := nearest_le FloatKind.f32.format (exp3 .f32) s m e mc ec (by rw [B32]; exact h2) (by rw [least_eq]; exact h3) h4 h1
      simp only [Format.write, hx, Datum.isInfinity]
      rfl
  · rfl
theorem narOk_bd {a : Nat} (h : Nm .f64 a → fv .f64 a ≤ p2 127 ∧ -(fv .f64 a) ≤ p2 127) : R.narOk a = true := by
  refine narOk_of fun s m e hr => ⟨1, 127, ?_, by decide, by decide, top_gt .f32 (by decide)⟩
  obtain ⟨h1, h2⟩ := h ⟨s, m, e, hr⟩
  unfold fv at h1 h2
  rw [hr] at h1 h2
  rw [← p2_mg]
  cases s
  · exact h1
  · rw [vd_true] at h2; grind

/-! ### whole parts -/
theorem cut_zero_eq (neg : Bool) (n drop : Nat) : Toward.zero.cut neg n drop = n / 2 ^ drop := by
  unfold Toward.cut
  simp only [Nat.one_shiftLeft, Bool.toNat_false, Nat.add_zero]
  by_cases hd : drop ≤ n.log2 + 2
  · rw [Nat.min_eq_left hd]
  · rw [Nat.min_eq_right (by omega)]
    have h1 : n < 2 ^ (n.log2 + 1) := Nat.lt_log2_self
    have h2 : 2 ^ (n.log2 + 1) ≤ 2 ^ drop := Nat.pow_le_pow_right (by decide) (by omega)
    have h3 : 2 ^ (n.log2 + 1) ≤ 2 ^ (n.log2 + 2) := Nat.pow_le_pow_right (by decide) (by omega)
    rw [Nat.div_eq_of_lt (by omega), Nat.div_eq_of_lt (by omega)]

theorem cut_down_le (n drop K : Nat) (neg : Bool) (h : n ≤ K * 2 ^ drop) : Toward.down.cut neg n drop ≤ K := by
  unfold Toward.cut
  simp only [Nat.one_shiftLeft]
  have hb : ∀ b : Bool, b.toNat ≤ 1 := by decide
  by_cases hd : drop ≤ n.log2 + 2
  · rw [Nat.min_eq_left hd]
    have hp : 0 < 2 ^ drop := Nat.two_pow_pos drop
    generalize 2 ^ drop = g at *
    have h1 := Nat.div_add_mod n g
    have h3 : n / g ≤ K := Nat.div_le_of_le_mul (by rw [Nat.mul_comm]; exact h)
    by_cases h4 : n / g = K
    · have h5 : n % g = 0 := by
        rw [h4, Nat.mul_comm] at h1; omega
      rw [h5]
      simpa using h3
    · have := hb (neg && n % g != 0)
      omega
  · rw [Nat.min_eq_right (by omega)]
    have h1 : n < 2 ^ (n.log2 + 1) := Nat.lt_log2_self
    have h2 : 2 ^ (n.log2 + 2) = 2 * 2 ^ (n.log2 + 1) := by rw [Nat.pow_succ, Nat.mul_comm]
    have h3 : n / 2 ^ (n.log2 + 2) = 0 := Nat.div_eq_of_lt (by omega)
    have h4 : n % 2 ^ (n.log2 + 2) = n := Nat.mod_eq_of_lt (by omega)
    rw [h3, h4]
    by_cases h0 : n = 0
    · subst h0; simp
    · have := hb (neg && n != 0)
      have : K ≠ 0 := by intro hk; subst hk; omega
      omega

/-- the digits of a number in units of one -/
theorem units_le (m : Nat) (e : Int) (K : Nat) : mg m e ≤ mg K 0 ↔ m <<< e.toNat ≤ K * 2 ^ (-e).toNat := by
  rw [Nat.shiftLeft_eq]
  by_cases h : 0 ≤ e
  · rw [mg_shift h, mg_le]
    have h1 : (-e).toNat = 0 := by omega
    have h2 : (e - 0).toNat = e.toNat := by omega
    rw [h1, h2]; simp
  · rw [mg_shift (show e ≤ 0 by omega) (m := K), mg_le]
    have h1 : e.toNat = 0 := by omega
    have h2 : (0 - e).toNat = (-e).toNat := by omega
    rw [h1, h2]; simp
theorem le_units (m : Nat) (e : Int) (K : Nat) : mg K 0 ≤ mg m e ↔ K * 2 ^ (-e).toNat ≤ m <<< e.toNat := by
  rw [Nat.shiftLeft_eq]
  by_cases h : 0 ≤ e
  · rw [mg_shift h, mg_le]
    have h1 : (-e).toNat = 0 := by omega
    have h2 : (e - 0).toNat = e.toNat := by omega
    rw [h1, h2]; simp
  · rw [mg_shift (show e ≤ 0 by omega) (m := K), mg_le]
    have h1 : e.toNat = 0 := by omega
    have h2 : (0 - e).toNat = (-e).toNat := by omega
    rw [h1, h2]; simp

/-- the number without its fraction -/
def wholeOf (m : Nat) (e : Int) : Nat := (m <<< e.toNat) / 2 ^ (-e).toNat
theorem wholeOf_le (m : Nat) (e : Int) : mg (wholeOf m e) 0 ≤ mg m e := by
  rw [le_units]
  exact Nat.div_mul_le_self _ _
theorem wholeOf_lt (m : Nat) (e : Int) : mg m e ≤ mg (wholeOf m e + 1) 0 := by
  rw [units_le]
  exact Nat.le_of_lt (by have := Nat.lt_mul_of_div_lt (show (m <<< e.toNat) / 2 ^ (-e).toNat < wholeOf m e + 1 from Nat.lt_succ_self _) (Nat.two_pow_pos _); exact this)

theorem decode_eq (a : Nat) : FloatKind.f64.decode a = FloatKind.f64.format.read a := rfl

theorem trunc_form {a : Nat} {s : Bool} {m : Nat} {e : Int} (hr : FloatKind.f64.format.read a = .number s m e) : R.trunc a = FloatKind.f64.format.nearest s (wholeOf m e) 0 := by
  have hn : isNan .f64 a = false := nm_not_nan ⟨_, _, _, hr⟩
  show ffloor .zero a = _
  unfold ffloor
  rw [hn, decode_eq, hr]
  rw [if_neg (by decide)]
  unfold FloatKind.encode Datum.integral wholeOf
  simp only [cut_zero_eq, Format.write]

theorem mg_nat0 (m : Nat) : mg m 0 = (m : Rat) := by unfold mg; rw [p2_zero]; simp

/-- the fraction that the whole part leaves is no more than one -/
theorem trunc_nm {a : Nat} {s : Bool} {m : Nat} {e : Int} (hr : FloatKind.f64.format.read a = .number s m e) (hb : wholeOf m e ≤ 2 ^ 53) :
    ∃ m' e', FloatKind.f64.format.read (R.trunc a) = .number s m' e' ∧ mg m' e' = (wholeOf m e : Rat) := by
  rw [trunc_form hr]
  obtain ⟨m', e', hx, hv⟩ := nearest_exact FloatKind.f64.format (exp3 .f64) s (wholeOf m e) 0 (wholeOf m e) 0 (by rw [B64]; exact hb) (by decide)
    (top_of (by rw [B64]; exact hb) (by show (0 : Int) + 1 ≤ 971; omega)) rfl
  exact ⟨m', e', hx, by rw [hv, mg_nat0]⟩

end Go.Cv
