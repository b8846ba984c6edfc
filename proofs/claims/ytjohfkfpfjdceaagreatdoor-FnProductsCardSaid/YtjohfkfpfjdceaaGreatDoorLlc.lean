/- Floats that hold small integers: sums, products and exact quotients of them are exact. -/
import Derived.Test.YtjohfkfpfjdceaaGreatDoorGz

set_option linter.unusedSimpArgs false
set_option linter.unusedVariables false
namespace Go.Dv
open Go.Cv
open Ieee

/-- the word holds an integer -/
def Wh (k : FloatKind) (w : Nat) (i : Int) : Prop := Nm k w ∧ fv k w = (i : Rat)
/-- an integer that every word of the kind tells -/
def Sml (k : FloatKind) (i : Int) : Prop := i.natAbs ≤ 2 * k.format.binade

theorem sml32 {i : Int} (h : i.natAbs ≤ 16777216) : Sml .f32 i := by unfold Sml; rw [B32]; exact h
theorem sml64 {i : Int} (h : i.natAbs ≤ 9007199254740992) : Sml .f64 i := by unfold Sml; rw [B64]; exact h

theorem abs_cast (i : Int) : ((i : Rat) = (i.natAbs : Rat) ∧ 0 ≤ i) ∨ ((i : Rat) = -(i.natAbs : Rat) ∧ i ≤ 0) := by
  rcases Int.natAbs_eq i with h | h
  · left
    refine ⟨?_, by omega⟩
    generalize i.natAbs = n at h
    subst h; exact Rat.intCast_natCast n
  · right
    refine ⟨?_, by omega⟩
    generalize i.natAbs = n at h
    subst h; rw [Rat.intCast_neg, Rat.intCast_natCast]

theorem vd_mag {s : Bool} {m : Nat} {e : Int} {i : Int} (h : vd (.number s m e) = (i : Rat)) : mg m e = mg i.natAbs 0 := by
  have hg := mg_nonneg m e
  have hn := nat_nonneg i.natAbs
  rw [mg_nat0]
  rcases abs_cast i with ⟨h1, _⟩ | ⟨h1, _⟩ <;> rw [h1] at h <;> cases s <;> simp only [vd_true, vd_false] at h <;> grind

theorem nearest_wh (k : FloatKind) (s : Bool) (m : Nat) (e : Int) (i : Int) (h : vd (.number s m e) = (i : Rat)) (hi : Sml k i) : Wh k (k.format.nearest s m e) i := by
  have hm := vd_mag h
  obtain ⟨m', e', hr, hv⟩ := nearest_exact k.format (exp3 k) s m e i.natAbs 0 hi (by rw [least_eq]; cases k <;> decide) (top_of hi (by cases k <;> decide)) hm
  refine ⟨⟨_, _, _, hr⟩, ?_⟩
  unfold fv; rw [hr, ← h]
  cases s <;> simp only [vd_true, vd_false, hv, hm]

theorem ofi_form' (k : FloatKind) (i : Int) : R.ofi k i = k.format.nearest (decide (i < 0)) i.natAbs 0 := by
  show cn k (floatOfInt k i) = _
  have e : floatOfInt k i = k.format.write (.number (decide (i < 0)) i.natAbs 0) := rfl
  rw [e]
  exact cn_of_not (write_not_nan _ _ rfl)
theorem wh_ofi {k : FloatKind} {i : Int} (hi : Sml k i) : Wh k (R.ofi k i) i := by
  rw [ofi_form']
  refine nearest_wh k _ _ _ _ ?_ hi
  rcases abs_cast i with ⟨h1, h2⟩ | ⟨h1, h2⟩
  · have : decide (i < 0) = false := decide_eq_false (by omega)
    rw [this, vd_false, mg_nat0, h1]
  · by_cases h0 : i = 0
    · subst h0
      have : decide ((0 : Int) < 0) = false := by decide
      rw [this, vd_false]
      show mg 0 0 = ((0 : Int) : Rat)
      rw [mg_zero]; rfl
    · have : decide (i < 0) = true := decide_eq_true (by omega)
      rw [this, vd_true, mg_nat0, h1]

theorem wh_add {k : FloatKind} {a b : Nat} {i j : Int} (ha : Wh k a i) (hb : Wh k b j) (h : Sml k (i + j)) : Wh k (R.bin .add k a b) (i + j) := by
  obtain ⟨⟨s, m, e, hra⟩, va⟩ := ha
  obtain ⟨⟨t, n, f, hrb⟩, vb⟩ := hb
  unfold fv at va vb; rw [hra] at va; rw [hrb] at vb
  obtain ⟨s', m', e', hs, hv⟩ := sum_num s m e t n f
  have : R.bin .add k a b = k.format.nearest s' m' e' := by
    show (k.format.add a b).getD (nanOf k) = _
    unfold Format.add
    rw [hra, hrb, hs]; rfl
  rw [this]
  exact nearest_wh k _ _ _ _ (by rw [hv, va, vb, Rat.intCast_add]) h
theorem wh_sub {k : FloatKind} {a b : Nat} {i j : Int} (ha : Wh k a i) (hb : Wh k b j) (h : Sml k (i - j)) : Wh k (R.bin .sub k a b) (i - j) := by
  obtain ⟨⟨s, m, e, hra⟩, va⟩ := ha
  obtain ⟨⟨t, n, f, hrb⟩, vb⟩ := hb
  unfold fv at va vb; rw [hra] at va; rw [hrb] at vb
  obtain ⟨s', m', e', hs, hv⟩ := sum_num s m e (!t) n f
  have : R.bin .sub k a b = k.format.nearest s' m' e' := by
    show (k.format.sub a b).getD (nanOf k) = _
    unfold Format.sub
    rw [hra, hrb, show (Datum.number t n f).opposite = .number (!t) n f from rfl, hs]; rfl
  have h2 : vd (.number (!t) n f) = -(vd (.number t n f)) := neg_num t n f
  rw [this]
  exact nearest_wh k _ _ _ _ (by rw [hv, h2, va, vb, Rat.intCast_sub, Rat.sub_eq_add_neg]) h
theorem wh_mul {k : FloatKind} {a b : Nat} {i j : Int} (ha : Wh k a i) (hb : Wh k b j) (h : Sml k (i * j)) : Wh k (R.bin .mul k a b) (i * j) := by
  obtain ⟨⟨s, m, e, hra⟩, va⟩ := ha
  obtain ⟨⟨t, n, f, hrb⟩, vb⟩ := hb
  unfold fv at va vb; rw [hra] at va; rw [hrb] at vb
  obtain ⟨hs, hv⟩ := product_num s m e t n f
  have : R.bin .mul k a b = k.format.nearest (s ^^ t) (m * n) (e + f) := by
    show (k.format.mul a b).getD (nanOf k) = _
    unfold Format.mul
    rw [hra, hrb, hs]; rfl
  rw [this]
  exact nearest_wh k _ _ _ _ (by rw [hv, va, vb, Rat.intCast_mul]) h

theorem wh_wid {a : Nat} {i : Int} (h : Wh .f32 a i) : Wh .f64 (R.wid a) i := by
  obtain ⟨h1, h2⟩ := wid_nm h.1
  exact ⟨h1, by rw [h2, h.2]⟩
theorem wh_narOk {a : Nat} {i : Int} (h : Wh .f64 a i) (hi : Sml .f32 i) : R.narOk a = true := narOk_of fun s m e hr => by
  obtain ⟨_, hv⟩ := h
  unfold fv at hv; rw [hr] at hv
  exact ⟨i.natAbs, 0, by rw [vd_mag hv]; exact Rat.le_refl, by unfold Sml at hi; rw [B32] at hi; exact hi, by decide, top_of hi (by decide)⟩
theorem wh_nar {a : Nat} {i : Int} (h : Wh .f64 a i) (hi : Sml .f32 i) : R.narOk a = true ∧ Wh .f32 (R.nar a) i := by
  have h1 := wh_narOk h hi
  refine ⟨h1, ?_⟩
  obtain ⟨⟨s, m, e, hr⟩, hv⟩ := h
  rw [nar_form hr h1]
  unfold fv at hv; rw [hr] at hv
  exact nearest_wh .f32 _ _ _ _ hv hi

theorem wh_eql {k : FloatKind} {a b : Nat} {i : Int} (ha : Wh k a i) (hb : Wh k b i) : R.cmp .eql k a b = true := by
  rw [eql_nm ha.1 hb.1, ha.2, hb.2]; simp
theorem wh_eql_iff {k : FloatKind} {a b : Nat} {i j : Int} (ha : Wh k a i) (hb : Wh k b j) : R.cmp .eql k a b = decide (i = j) := by
  rw [eql_nm ha.1 hb.1, ha.2, hb.2]
  have : ((i : Rat) = (j : Rat)) ↔ i = j := Rat.intCast_inj
  by_cases h : i = j
  · rw [decide_eq_true h, decide_eq_true (this.2 h)]
  · rw [decide_eq_false h, decide_eq_false (fun hc => h (this.1 hc))]

/-! ### the other way around -/
theorem neg_read32 {a : Nat} {s : Bool} {m : Nat} {e : Int} (hr : FloatKind.f32.format.read a = .number s m e) : FloatKind.f32.format.read (R.neg .f32 a) = .number (!s) m e := by
  have hn : isNan .f32 a = false := nm_not_nan ⟨_, _, _, hr⟩
  have h1 : isNan .f32 (Op.negFloat .f32 a) = false := by rw [isNan_neg, hn]
  have h2 : R.neg .f32 a = a ^^^ 2 ^ 31 := by
    show fneg .f32 a = _
    unfold fneg
    rw [cn_of_not h1]; rfl
  rw [h2]
  have ef : FloatKind.f32.format = ⟨8, 23⟩ := rfl
  rw [ef] at hr ⊢
  have hb : ((a ^^^ 2 ^ 31) / 2 ^ 31 % 2 == 1) = !(a / 2 ^ 31 % 2 == 1) := by
    have h3 : (a ^^^ 2 ^ 31).testBit 31 = !a.testBit 31 := by
      rw [Nat.testBit_xor, Nat.testBit_two_pow]; simp
    rw [Nat.testBit_eq_decide_div_mod_eq, Nat.testBit_eq_decide_div_mod_eq] at h3
    by_cases hc : a / 2 ^ 31 % 2 = 1
    · rw [decide_eq_true hc] at h3
      have h4 := of_decide_eq_false h3
      rw [hc, beq_eq_false_iff_ne.2 h4]; rfl
    · rw [decide_eq_false hc] at h3
      have h4 := of_decide_eq_true h3
      rw [h4, beq_eq_false_iff_ne.2 hc]; rfl
  unfold Format.read at hr ⊢
  have eS : Format.signWeight ⟨8, 23⟩ = 2 ^ 31 := by decide
  simp only [eS, xor_pow_mod, hb] at hr ⊢
  split at hr
  · rename_i hc; rw [if_pos hc]; cases hr; rfl
  · rename_i hc; rw [if_neg hc]
    split at hr
    · rename_i hc; rw [if_pos hc]; cases hr; rfl
    · split at hr <;> cases hr
theorem wh_neg {a : Nat} {i : Int} (h : Wh .f32 a i) : Wh .f32 (R.neg .f32 a) (-i) := by
  obtain ⟨⟨s, m, e, hr⟩, hv⟩ := h
  have h1 := neg_read32 hr
  unfold fv at hv; rw [hr] at hv
  refine ⟨⟨_, _, _, h1⟩, ?_⟩
  unfold fv
  rw [h1, Rat.intCast_neg, ← hv]
  exact neg_num s m e

/-! ### whole parts -/
theorem wh_toi32 {a : Nat} {i : Int} (h : Wh .f32 a i) (hi : i.natAbs ≤ 1000000000) : R.toiOk .f32 a .i64 = true ∧ R.toi .f32 a .i64 = i := by
  obtain ⟨⟨s, m, e, hr⟩, hv⟩ := h
  unfold fv at hv; rw [hr] at hv
  have hm := vd_mag hv
  have hw : wholeOf m e = i.natAbs := by
    have h1 := (units_le m e i.natAbs).1 (by rw [hm]; exact Rat.le_refl)
    have h2 := (le_units m e i.natAbs).1 (by rw [hm]; exact Rat.le_refl)
    unfold wholeOf
    rw [Nat.le_antisymm h1 h2]
    exact Nat.mul_div_cancel _ (Nat.two_pow_pos _)
  have h0 : i.natAbs <<< 0 = i.natAbs := by simp
  have hsg : signed s (wholeOf m e) 0 = i := by
    unfold signed
    rw [hw, h0]
    rcases abs_cast i with ⟨h1, h2⟩ | ⟨h1, h2⟩
    · by_cases hz : i = 0
      · subst hz; cases s <;> rfl
      · cases s
        · show ((i.natAbs : Nat) : Int) = i; omega
        · exfalso
          rw [vd_true, hm, mg_nat0, h1] at hv
          have : 0 < (i.natAbs : Rat) := Rat.natCast_pos.2 (by omega)
          grind
    · by_cases hz : i = 0
      · subst hz; cases s <;> rfl
      · cases s
        · exfalso
          rw [vd_false, hm, mg_nat0, h1] at hv
          have : 0 < (i.natAbs : Rat) := Rat.natCast_pos.2 (by omega)
          grind
        · show -((i.natAbs : Nat) : Int) = i; omega
  have h1 : ftoi .f32 a .i64 = some i := by
    unfold ftoi floatToIntVal
    have h2 : (FloatKind.f32.decode a).toInt .zero = some (signed s (wholeOf m e) 0) := by
      rw [show FloatKind.f32.decode a = FloatKind.f32.format.read a from rfl, hr]
      unfold Datum.toInt Datum.integral
      simp only [cut_zero_eq]
      rfl
    rw [h2, hsg]
    have h3 : IntKind.i64.min ≤ i ∧ i ≤ IntKind.i64.max := by
      have a1 : IntKind.i64.min = -9223372036854775808 := by decide
      have a2 : IntKind.i64.max = 9223372036854775807 := by decide
      rw [a1, a2]; omega
    simp only
    rw [if_pos h3]
  exact ⟨by show (ftoi .f32 a .i64).isSome = true; rw [h1]; rfl, by show (ftoi .f32 a .i64).getD 0 = i; rw [h1]; rfl⟩

/-! ### quotients that come out even -/
theorem wh_quo {a b : Nat} {q d : Int} (ha : Wh .f64 a (q * d)) (hb : Wh .f64 b d) (hd : d ≠ 0) (hq : q.natAbs ≤ 16777216) : Wh .f64 (R.bin .quo .f64 a b) q := by
  obtain ⟨⟨s, m, i, hra⟩, va⟩ := ha
  obtain ⟨⟨t, n, j, hrb⟩, vb⟩ := hb
  unfold fv at va vb; rw [hra] at va; rw [hrb] at vb
  have ma := vd_mag va
  have mb := vd_mag vb
  have hn : n ≠ 0 := by
    intro h; subst h
    rw [mg_zero, mg_nat0] at mb
    have : 0 < (d.natAbs : Rat) := Rat.natCast_pos.2 (by omega)
    grind
  have hn0 : 0 < n := Nat.pos_of_ne_zero hn
  have hform : R.bin .quo .f64 a b = FloatKind.f64.format.nearest (s ^^ t) (2 * ((m <<< (54 + n.log2 - m.log2)) / n) + ((m <<< (54 + n.log2 - m.log2)) % n != 0).toNat) (i - j - ((54 + n.log2 - m.log2 : Nat) : Int) - 1) := by
    show (FloatKind.f64.format.div a b).getD (nanOf .f64) = _
    unfold Format.div
    rw [hra, hrb]
    simp only [Datum.quotient, if_neg hn]
    rfl
  -- the magnitude
  have hK : mg m i = mg (q.natAbs * n) j := by
    have : mg (q.natAbs * n) j = (q.natAbs : Rat) * mg n j := by unfold mg; rw [Rat.natCast_mul, Rat.mul_assoc]
    rw [ma, this, mb, mg_nat0, mg_nat0, Int.natAbs_mul, Rat.natCast_mul]
  have hmag : mg (2 * ((m <<< (54 + n.log2 - m.log2)) / n) + ((m <<< (54 + n.log2 - m.log2)) % n != 0).toNat) (i - j - ((54 + n.log2 - m.log2 : Nat) : Int) - 1) = mg q.natAbs 0 := by
    by_cases hm : m = 0
    · subst hm
      have hq0 : q.natAbs = 0 := by
        rw [mg_zero, ← mg_zero j, mg_eq] at hK
        rcases Nat.mul_eq_zero.1 hK.symm with h | h
        · exact h
        · exact absurd h hn
      rw [hq0, mg_zero]
      have : 0 <<< (54 + n.log2 - Nat.log2 0) = 0 := by simp
      rw [this]
      simp [mg_zero]
    · generalize hmore : 54 + n.log2 - m.log2 = more
      have hge : n * 2 ^ 53 ≤ m <<< more := by
        have h1 : 2 ^ m.log2 ≤ m := Nat.log2_self_le hm
        have h2 : n < 2 ^ (n.log2 + 1) := Nat.lt_log2_self
        rw [Nat.shiftLeft_eq]
        have h3 : 2 ^ m.log2 * 2 ^ more ≤ m * 2 ^ more := Nat.mul_le_mul_right _ h1
        rw [← Nat.pow_add] at h3
        have h4 : 2 ^ (n.log2 + 1 + 53) ≤ 2 ^ (m.log2 + more) := Nat.pow_le_pow_right (by decide) (by omega)
        rw [Nat.pow_add _ (n.log2 + 1) 53] at h4
        have h5 : n * 2 ^ 53 ≤ 2 ^ (n.log2 + 1) * 2 ^ 53 := Nat.mul_le_mul_right _ (Nat.le_of_lt h2)
        exact Nat.le_trans h5 (Nat.le_trans h4 h3)
      have hD : mg (m <<< more) (i - more) = mg m i := by
        rw [mg_shift (show i - (more : Int) ≤ i by omega), Nat.shiftLeft_eq]
        congr 3; omega
      rw [hK] at hD
      generalize m <<< more = D at *
      have e1 : i - (more : Int) = (i - j - more) + j := by omega
      rw [e1] at hD
      generalize i - j - (more : Int) = U at *
      by_cases hU : U ≤ 0
      · rw [mg_shift (show U + j ≤ j by omega), mg_eq] at hD
        have e2 : (j - (U + j)).toNat = (-U).toNat := by omega
        rw [e2] at hD
        have h5 : D = n * (q.natAbs * 2 ^ (-U).toNat) := by rw [hD, Nat.mul_comm q.natAbs n, Nat.mul_assoc]
        have h6 : D / n = q.natAbs * 2 ^ (-U).toNat := by rw [h5]; exact Nat.mul_div_cancel_left _ hn0
        have h7 : D % n = 0 := by rw [h5]; exact Nat.mul_mod_right _ _
        rw [h6, h7]
        have h8 : (2 * (q.natAbs * 2 ^ (-U).toNat) + ((0 : Nat) != 0).toNat) = 2 * (q.natAbs * 2 ^ (-U).toNat) := by simp
        rw [h8, mg_double]
        have e3 : U - 1 + 1 = U := by omega
        rw [e3, mg_shift hU]
        congr 3; omega
      · exfalso
        rw [mg_shift (show j ≤ U + j by omega), mg_eq] at hD
        have h5 : D * 1 ≤ D * 2 ^ (U + j - j).toNat := Nat.mul_le_mul_left _ (Nat.one_le_two_pow)
        have h6 : q.natAbs * n ≤ 16777216 * n := Nat.mul_le_mul_right _ hq
        omega
  have hv : vd (.number (s ^^ t) (2 * ((m <<< (54 + n.log2 - m.log2)) / n) + ((m <<< (54 + n.log2 - m.log2)) % n != 0).toNat) (i - j - ((54 + n.log2 - m.log2 : Nat) : Int) - 1)) = (q : Rat) := by
    have hqd : (q * d).natAbs = q.natAbs * d.natAbs := Int.natAbs_mul q d
    have hp : 0 < (d.natAbs : Rat) := Rat.natCast_pos.2 (by omega)
    have hpq := nat_nonneg q.natAbs
    have hv0 : ∀ z : Bool, vd (.number z (2 * ((m <<< (54 + n.log2 - m.log2)) / n) + ((m <<< (54 + n.log2 - m.log2)) % n != 0).toNat) (i - j - ((54 + n.log2 - m.log2 : Nat) : Int) - 1)) = if z then -(q.natAbs : Rat) else (q.natAbs : Rat) := fun z => by
      cases z
      · rw [vd_false, hmag, mg_nat0]; rfl
      · rw [vd_true, hmag, mg_nat0]; rfl
    rw [hv0]
    rw [mg_nat0] at ma mb
    -- signs
    have sa : (if s then -((q * d).natAbs : Rat) else ((q * d).natAbs : Rat)) = (q : Rat) * (d : Rat) := by
      rw [← Rat.intCast_mul, ← va]
      cases s
      · rw [vd_false, ma]; rfl
      · rw [vd_true, ma]; rfl
    have sb : (if t then -(d.natAbs : Rat) else (d.natAbs : Rat)) = (d : Rat) := by
      rw [← vb]
      cases t
      · rw [vd_false, mb]; rfl
      · rw [vd_true, mb]; rfl
    rw [hqd, Rat.natCast_mul] at sa
    have hne : (d.natAbs : Rat) ≠ 0 := by grind
    cases s <;> cases t <;> simp only [Bool.false_eq_true, if_true, if_false, Bool.xor_false, Bool.xor_true, Bool.false_xor, Bool.true_xor, Bool.not_true, Bool.not_false] at sa sb ⊢ <;> rw [← sb] at sa
    · have h9 : ((q.natAbs : Rat) - (q : Rat)) * (d.natAbs : Rat) = 0 := by grind
      rcases Rat.mul_eq_zero.1 h9 with h | h
      · grind
      · exact absurd h hne
    · have h9 : ((q.natAbs : Rat) + (q : Rat)) * (d.natAbs : Rat) = 0 := by grind
      rcases Rat.mul_eq_zero.1 h9 with h | h
      · grind
      · exact absurd h hne
    · have h9 : ((q.natAbs : Rat) + (q : Rat)) * (d.natAbs : Rat) = 0 := by grind
      rcases Rat.mul_eq_zero.1 h9 with h | h
      · grind
      · exact absurd h hne
    · have h9 : ((q.natAbs : Rat) - (q : Rat)) * (d.natAbs : Rat) = 0 := by grind
      rcases Rat.mul_eq_zero.1 h9 with h | h
      · grind
      · exact absurd h hne
  rw [hform]
  exact nearest_wh .f64 _ _ _ _ hv (by unfold Sml; rw [B64]; omega)
end Go.Dv
