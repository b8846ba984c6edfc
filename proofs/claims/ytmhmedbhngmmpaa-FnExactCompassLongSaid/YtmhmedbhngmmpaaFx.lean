/- Quotients, roots, whole parts and other widths, by what their operands are worth. No program is in sight. -/
import Derived.Test.YtmhmedbhngmmpaaFw
namespace Go.Cv
open Ieee

theorem mg_pos {m : Nat} {e : Int} (h : m ≠ 0) : 0 < mg m e := by
  have h1 : mg 1 e ≤ mg m e := mg_le.2 (by omega)
  rw [← p2_mg] at h1
  have := p2_pos e
  grind
theorem mg_p2 (n : Nat) (j E : Int) : mg n (j + E) = mg n j * p2 E := by unfold mg; rw [p2_add, Rat.mul_assoc]

theorem quo_mag (digits m n : Nat) (i j : Int) (hn : n ≠ 0) (hd : 1 ≤ digits) :
    let more := digits + n.log2 - m.log2
    let Q := 2 * ((m <<< more) / n) + ((m <<< more) % n != 0).toNat
    (∀ E, mg m i ≤ mg n (j + E) → mg Q (i - j - more - 1) ≤ p2 E) ∧ (∀ E, mg n (j + E) ≤ mg m i → p2 E ≤ mg Q (i - j - more - 1)) := by
  intro more Q
  have hn0 : 0 < n := Nat.pos_of_ne_zero hn
  have hD : mg (m <<< more) (i - more) = mg m i := by
    rw [mg_shift (show i - (more : Int) ≤ i by omega), Nat.shiftLeft_eq]
    congr 3; omega
  have hge : m ≠ 0 → n ≤ m <<< more := by
    intro hm
    have h1 : 2 ^ m.log2 ≤ m := Nat.log2_self_le hm
    have h2 : n < 2 ^ (n.log2 + 1) := Nat.lt_log2_self
    rw [Nat.shiftLeft_eq]
    have h3 : 2 ^ m.log2 * 2 ^ more ≤ m * 2 ^ more := Nat.mul_le_mul_right _ h1
    rw [← Nat.pow_add] at h3
    have h4 : 2 ^ (n.log2 + 1) ≤ 2 ^ (m.log2 + more) := Nat.pow_le_pow_right (by decide) (by show _ ≤ m.log2 + (digits + n.log2 - m.log2); omega)
    omega
  have hQ0 : m = 0 → Q = 0 := by
    intro hm
    have : m <<< more = 0 := by rw [hm]; simp
    show 2 * ((m <<< more) / n) + ((m <<< more) % n != 0).toNat = 0
    rw [this]; simp
  have hQ : Q = 2 * ((m <<< more) / n) + ((m <<< more) % n != 0).toNat := rfl
  generalize m <<< more = D at *
  generalize Q = Q at *
  have e1 : i - (more : Int) = (i - j - more) + j := by omega
  rw [e1] at hD
  generalize i - j - (more : Int) = U at *
  have hdm := Nat.div_add_mod D n
  have hml := Nat.mod_lt D hn0
  have hb : ∀ b : Bool, b.toNat ≤ 1 := by decide
  constructor
  · intro E h
    by_cases hm : m = 0
    · rw [hQ0 hm, mg_zero]; exact p2_nonneg E
    · by_cases hU : U ≤ E
      · rw [← hD, mg_shift (show U + j ≤ j + E by omega), mg_le] at h
        generalize hK : 2 ^ (j + E - (U + j)).toNat = K at h
        have hq : Q ≤ 2 * K := by
          have h1 : D / n ≤ K := Nat.div_le_of_le_mul h
          by_cases h2 : D / n = K
          · have h3 : D % n = 0 := by rw [h2] at hdm; omega
            rw [hQ, h2, h3]; simp
          · have := hb (D % n != 0)
            rw [hQ]; omega
        refine Rat.le_trans (mg_le.2 hq) ?_
        rw [mg_double, p2_mg, mg_shift hU]
        have e2 : U - 1 + 1 = U := by omega
        rw [e2]
        refine mg_le.2 ?_
        rw [← hK, Nat.one_mul]
        exact Nat.pow_le_pow_right (by decide) (by omega)
      · exfalso
        have h1 : mg n (U + j) ≤ mg D (U + j) := mg_le.2 (hge hm)
        rw [hD] at h1
        have h2 : mg (2 * n) (j + E) ≤ mg n (U + j) := by rw [mg_double]; exact mg_mono (by omega)
        have h3 := mg_le.1 (Rat.le_trans h2 (Rat.le_trans h1 h))
        omega
  · intro E h
    have hm : m ≠ 0 := by
      intro h0
      subst h0
      rw [mg_zero] at h
      have := mg_pos (e := j + E) hn
      grind
    by_cases hU : U ≤ E
    · rw [← hD, mg_shift (show U + j ≤ j + E by omega), mg_le] at h
      generalize hK : 2 ^ (j + E - (U + j)).toNat = K at h
      have hq : 2 * K ≤ Q := by
        have h1 : K ≤ D / n := (Nat.le_div_iff_mul_le hn0).2 (by rw [Nat.mul_comm]; exact h)
        rw [hQ]; omega
      refine Rat.le_trans ?_ (mg_le.2 hq)
      rw [mg_double, p2_mg, mg_shift hU]
      have e2 : U - 1 + 1 = U := by omega
      rw [e2]
      refine mg_le.2 ?_
      rw [← hK, Nat.one_mul]
      exact Nat.pow_le_pow_right (by decide) (by omega)
    · have h1 : 1 ≤ D / n := (Nat.le_div_iff_mul_le hn0).2 (by have := hge hm; omega)
      have hq : 2 * 1 ≤ Q := by rw [hQ]; omega
      refine Rat.le_trans ?_ (mg_le.2 hq)
      rw [mg_double, p2_mg]
      exact mg_mono (by omega)

theorem rd_quo {k : FloatKind} {a b : Nat} (ha : Nm k a) (hb : Nm k b) (h0 : fv k b ≠ 0) : Rd k (fv k a / fv k b) (R.bin .quo k a b) := by
  obtain ⟨s, m, i, ha⟩ := ha
  obtain ⟨t, n, j, hb⟩ := hb
  have hn : n ≠ 0 := by
    intro h; apply h0; unfold fv; rw [hb, h]; cases t <;> simp [vd, mg]
  obtain ⟨qa, qb⟩ := quo_mag (k.format.fractionBits + 2) m n i j hn (by omega)
  have : R.bin .quo k a b = k.format.nearest (s ^^ t) (2 * ((m <<< (k.format.fractionBits + 2 + n.log2 - m.log2)) / n) + ((m <<< (k.format.fractionBits + 2 + n.log2 - m.log2)) % n != 0).toNat) (i - j - ((k.format.fractionBits + 2 + n.log2 - m.log2 : Nat) : Int) - 1) := by
    show (k.format.div a b).getD (nanOf k) = _
    unfold Format.div
    rw [ha, hb]
    simp only [Datum.quotient, if_neg hn]
    rfl
  rw [this]
  generalize 2 * ((m <<< (k.format.fractionBits + 2 + n.log2 - m.log2)) / n) + ((m <<< (k.format.fractionBits + 2 + n.log2 - m.log2)) % n != 0).toNat = Q at *
  generalize i - j - ((k.format.fractionBits + 2 + n.log2 - m.log2 : Nat) : Int) - 1 = P at *
  have hr := rd_nearest k (s ^^ t) Q P
  -- the size of the quotient
  have hnp : 0 < mg n j := mg_pos hn
  have hx : ∃ X : Rat, 0 ≤ X ∧ mg m i = X * mg n j ∧ fv k a / fv k b = if (s ^^ t) then -X else X := by
    refine ⟨mg m i / mg n j, by rw [Rat.div_def]; exact Rat.mul_nonneg (mg_nonneg _ _) (Rat.le_of_lt (Rat.inv_pos.2 hnp)), by rw [Rat.div_mul_cancel (by grind)], ?_⟩
    have hne : mg n j ≠ 0 := by grind
    have hinv : (-(mg n j))⁻¹ = -(mg n j)⁻¹ := by grind
    unfold fv; rw [ha, hb]
    cases s <;> cases t <;> simp [vd, Rat.div_def, Rat.neg_mul, Rat.mul_neg, hinv]
  obtain ⟨X, hX0, hX1, hX2⟩ := hx
  rw [hX2]
  clear this hX2 ha hb
  generalize (s ^^ t) = σ at *
  have A : ∀ E, X ≤ p2 E → mg Q P ≤ p2 E := by
    intro E h
    refine qa E ?_
    rw [hX1, mg_p2, Rat.mul_comm]
    exact Rat.mul_le_mul_of_nonneg_left h (Rat.le_of_lt hnp)
  have B : ∀ E, p2 E ≤ X → p2 E ≤ mg Q P := by
    intro E h
    refine qb E ?_
    rw [hX1, mg_p2, Rat.mul_comm]
    exact Rat.mul_le_mul_of_nonneg_right h (Rat.le_of_lt hnp)
  have hg := mg_nonneg Q P
  refine ⟨?_, ?_, ?_, ?_⟩
  · intro E h1 h2 h3 h4
    have h5 : X ≤ p2 E := by cases σ <;> simp only [if_true, if_false, Bool.false_eq_true] at h3 h4 <;> grind
    have h6 := A E h5
    refine hr.le E h1 h2 ?_ ?_ <;> cases σ <;> simp only [vd_true, vd_false] <;> grind
  · intro E h1 h2 h3
    refine hr.ge E h1 h2 ?_
    have hp := p2_pos E
    cases σ <;> simp only [if_true, if_false, Bool.false_eq_true] at h3
    · exact B E h3
    · exfalso; grind
  · intro h1 h2
    cases σ <;> simp only [if_true, if_false, Bool.false_eq_true] at h1
    · exact hr.pos hg h2
    · have hX : X = 0 := by grind
      have hm : mg m i = 0 := by rw [hX1, hX]; simp
      have h7 : mg Q P = 0 := by
        refine Rat.le_antisymm ?_ hg
        refine Classical.byContradiction fun hc => ?_
        -- Q = 0 as every power of two is above it
        have h8 : mg Q P ≤ p2 (P - 1) := A (P - 1) (by rw [hX]; exact p2_nonneg _)
        have h9 : Q ≠ 0 := by intro h; rw [h, mg_zero] at hc; exact hc Rat.le_refl
        have h10 : mg 1 P ≤ mg Q P := mg_le.2 (by omega)
        have h11 : mg 1 P = mg 2 (P - 1) := by
          have := mg_double 1 (P - 1)
          rw [show P - 1 + 1 = P by omega] at this
          exact this.symm
        rw [p2_mg] at h8
        rw [h11] at h10
        have := mg_le.1 (Rat.le_trans h10 h8)
        omega
      refine hr.pos ?_ h2
      rw [vd_true, h7]; grind
  · intro h1 h2
    cases σ <;> simp only [if_true, if_false, Bool.false_eq_true] at h1
    · have hX : X = 0 := by grind
      have h7 : mg Q P = 0 := by
        refine Rat.le_antisymm ?_ hg
        refine Classical.byContradiction fun hc => ?_
        have h8 : mg Q P ≤ p2 (P - 1) := A (P - 1) (by rw [hX]; exact p2_nonneg _)
        have h9 : Q ≠ 0 := by intro h; rw [h, mg_zero] at hc; exact hc Rat.le_refl
        have h10 : mg 1 P ≤ mg Q P := mg_le.2 (by omega)
        have h11 : mg 1 P = mg 2 (P - 1) := by
          have := mg_double 1 (P - 1)
          rw [show P - 1 + 1 = P by omega] at this
          exact this.symm
        rw [p2_mg] at h8
        rw [h11] at h10
        have := mg_le.1 (Rat.le_trans h10 h8)
        omega
      refine hr.neg ?_ h2
      rw [vd_false, h7]; grind
    · refine hr.neg ?_ h2
      rw [vd_true]; grind

/-! ### roots -/

theorem rootFrom_le (n : Nat) : ∀ todo root, root * root ≤ n → Datum.rootFrom n todo root * Datum.rootFrom n todo root ≤ n := by
  intro todo
  induction todo with
  | zero => intro root h; exact h
  | succ k ih =>
    intro root h
    unfold Datum.rootFrom
    simp only
    refine ih _ ?_
    split
    · assumption
    · exact h

theorem sqrt_nm {a : Nat} (ha : Nm .f64 a) (h0 : 0 ≤ fv .f64 a) {E : Int} (hE : fv .f64 a ≤ p2 (2 * E)) (h1 : -1074 ≤ E) (h2 : E ≤ 1023) :
    Nm .f64 (R.sqrt a) ∧ 0 ≤ fv .f64 (R.sqrt a) ∧ fv .f64 (R.sqrt a) ≤ p2 E := by
  obtain ⟨s, m, i, hr⟩ := ha
  have hv : fv .f64 a = vd (.number s m i) := by unfold fv; rw [hr]
  rw [hv] at h0 hE
  by_cases hm : m = 0
  · have : R.sqrt a = FloatKind.f64.format.nearest s m i := by
      show (FloatKind.f64.format.sqrt a).getD (nanOf .f64) = _
      unfold Format.sqrt
      rw [hr]
      simp [Datum.root, hm, Format.write]
    rw [this]
    have hR := rd_nearest .f64 s m i
    have hz : vd (.number s m i) = 0 := by rw [hm]; cases s <;> simp [vd, mg]
    rw [hz] at hR
    have hp := p2_nonneg E
    obtain ⟨hN, hl, hg⟩ := hR.le E h1 h2 hp (by grind)
    exact ⟨hN, hR.pos Rat.le_refl hN, hl⟩
  · have hs : s = false := by
      cases s
      · rfl
      · exfalso
        rw [vd_true] at h0
        have := mg_pos (e := i) hm
        grind
    subst hs
    rw [vd_false] at h0 hE
    obtain ⟨more, hmore, hev⟩ : ∃ more : Nat, more = 2 * (FloatKind.f64.format.fractionBits + 2) - m.log2 + ((i - ((2 * (FloatKind.f64.format.fractionBits + 2) - m.log2 : Nat) : Int)) % 2).toNat ∧ (i - (more : Int)) % 2 = 0 := by
      refine ⟨_, rfl, ?_⟩
      generalize 2 * (FloatKind.f64.format.fractionBits + 2) - m.log2 = z
      omega
    have hform : R.sqrt a = FloatKind.f64.format.nearest false (2 * Datum.rootFrom (m <<< more) ((m <<< more).log2 / 2 + 1) 0 + (Datum.rootFrom (m <<< more) ((m <<< more).log2 / 2 + 1) 0 * Datum.rootFrom (m <<< more) ((m <<< more).log2 / 2 + 1) 0 != (m <<< more)).toNat) ((i - more) / 2 - 1) := by
      show (FloatKind.f64.format.sqrt a).getD (nanOf .f64) = _
      unfold Format.sqrt
      rw [hr, hmore]
      simp only [Datum.root, if_neg hm]
      rfl
    rw [hform]
    have hw := rootFrom_le (m <<< more) ((m <<< more).log2 / 2 + 1) 0 (Nat.zero_le _)
    generalize Datum.rootFrom (m <<< more) ((m <<< more).log2 / 2 + 1) 0 = W at *
    have hD : mg (m <<< more) (i - more) = mg m i := by
      rw [mg_shift (show i - (more : Int) ≤ i by omega), Nat.shiftLeft_eq]
      congr 3; omega
    have hDpos : m <<< more ≠ 0 := by
      rw [Nat.shiftLeft_eq]
      have := Nat.two_pow_pos more
      exact Nat.mul_ne_zero hm (by omega)
    generalize m <<< more = D at *
    obtain ⟨U, hU⟩ : ∃ U : Int, i - more = 2 * U := ⟨(i - more) / 2, by omega⟩
    have hU2 : (i - (more : Int)) / 2 = U := by omega
    rw [hU2]
    rw [hU] at hD
    rw [← hD, p2_mg] at hE
    have hUE : U ≤ E := by
      refine Classical.byContradiction fun hc => ?_
      have h3 : mg 1 (2 * U) ≤ mg D (2 * U) := mg_le.2 (by omega)
      have h4 : mg 2 (2 * E) ≤ mg 1 (2 * U) := by
        have : mg 2 (2 * E) = mg 1 (2 * E + 1) := mg_double 1 _
        rw [this]; exact mg_mono (by omega)
      have := mg_le.1 (Rat.le_trans h4 (Rat.le_trans h3 hE))
      omega
    obtain ⟨d, hd⟩ := Int.eq_ofNat_of_zero_le (show 0 ≤ E - U by omega)
    have hDK : D ≤ 2 ^ d * 2 ^ d := by
      rw [mg_shift (show 2 * U ≤ 2 * E by omega), mg_le, Nat.one_mul] at hE
      have : (2 * E - 2 * U).toNat = d + d := by omega
      rw [this, Nat.pow_add] at hE
      exact hE
    have hWK : 2 * W + (W * W != D).toNat ≤ 2 * 2 ^ d := by
      generalize 2 ^ d = K at *
      have hWle : W ≤ K := by
        refine Classical.byContradiction fun hc => ?_
        have : (K + 1) * (K + 1) ≤ W * W := Nat.mul_le_mul (by omega) (by omega)
        have : (K + 1) * (K + 1) = K * K + 2 * K + 1 := by grind
        omega
      by_cases h5 : W = K
      · subst h5
        have : W * W = D := by omega
        simp [this]
      · have hb : ∀ b : Bool, b.toNat ≤ 1 := by decide
        have := hb (W * W != D)
        omega
    have hfin : mg (2 * W + (W * W != D).toNat) (U - 1) ≤ p2 E := by
      refine Rat.le_trans (mg_le.2 hWK) ?_
      rw [mg_double, p2_mg, show U - 1 + 1 = U by omega, mg_shift hUE, Nat.one_mul]
      refine mg_le.2 ?_
      have : (E - U).toNat = d := by omega
      rw [this]
      exact Nat.le_refl _
    have hR := rd_nearest .f64 false (2 * W + (W * W != D).toNat) (U - 1)
    have hg := mg_nonneg (2 * W + (W * W != D).toNat) (U - 1)
    rw [vd_false] at hR
    obtain ⟨hN, hl, hg'⟩ := hR.le E h1 h2 hfin (by have := p2_nonneg E; grind)
    exact ⟨hN, hR.pos hg hN, hl⟩

end Go.Cv
