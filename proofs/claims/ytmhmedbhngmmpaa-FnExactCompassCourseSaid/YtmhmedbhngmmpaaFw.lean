/- What the operations on floats give, by what their operands are worth. No program is in sight. -/
import Derived.Test.YtmhmedbhngmmpaaFv
import Derived.Test.YtmhmedbhngmmpaaFo
set_option linter.unusedSimpArgs false
namespace Go.Cv
open Ieee

/-- what a datum is worth -/
def vd : Datum → Rat
  | .number s m e => if s then -(mg m e) else mg m e
  | _ => 0
/-- is a word a number -/
def Nm (k : FloatKind) (n : Nat) : Prop := ∃ s m e, k.format.read n = .number s m e
def fv (k : FloatKind) (n : Nat) : Rat := vd (k.format.read n)
def loP : FloatKind → Int
  | .f32 => -149
  | .f64 => -1074
def hiP : FloatKind → Int
  | .f32 => 127
  | .f64 => 1023

theorem least_eq (k : FloatKind) : k.format.leastPlace = loP k := by cases k <;> decide
theorem exp3 (k : FloatKind) : 3 ≤ 2 ^ k.format.exponentBits := by cases k <;> decide
theorem one_le_B (k : FloatKind) : 1 ≤ 2 * k.format.binade := by cases k <;> decide
theorem p2_mg (e : Int) : p2 e = mg 1 e := by unfold mg; simp
theorem top_gt (k : FloatKind) {E : Int} (h : E ≤ hiP k) : mg 1 E < topOf k.format := by
  refine Rat.not_le.1 fun hc => ?_
  have h1 : topOf k.format ≤ mg 1 (hiP k) := Rat.le_trans hc (mg_mono h)
  have : ¬ topOf k.format ≤ mg 1 (hiP k) := by cases k <;> decide +kernel
  exact this h1

/-- the word n is a value v, rounded -/
structure Rd (k : FloatKind) (v : Rat) (n : Nat) : Prop where
  le : ∀ E, loP k ≤ E → E ≤ hiP k → v ≤ p2 E → -v ≤ p2 E → Nm k n ∧ fv k n ≤ p2 E ∧ -(fv k n) ≤ p2 E
  ge : ∀ E, loP k ≤ E → Nm k n → p2 E ≤ v → p2 E ≤ fv k n
  pos : 0 ≤ v → Nm k n → 0 ≤ fv k n
  neg : v ≤ 0 → Nm k n → fv k n ≤ 0

theorem vd_true (m : Nat) (e : Int) : vd (.number true m e) = -(mg m e) := rfl
theorem vd_false (m : Nat) (e : Int) : vd (.number false m e) = mg m e := rfl

theorem nearest_sign (f : Format) (he : 3 ≤ 2 ^ f.exponentBits) (neg : Bool) (m : Nat) (e : Int) {s : Bool} {m' : Nat} {e' : Int} (hr : f.read (f.nearest neg m e) = .number s m' e') : s = neg := by
  have hB : 0 < f.binade := Nat.two_pow_pos _
  by_cases hm : m = 0
  · subst hm
    have h0 : f.nearest neg 0 e = f.word neg (0 * f.binade + 0) := by unfold Format.nearest; simp
    obtain ⟨m2, e2, hr2, hv⟩ := read_rung f neg 0 0 (by omega) (by simp) (by
      have : f.infRung = (2 ^ f.exponentBits - 1) * f.binade := rfl
      rw [this]
      have : 0 < (2 ^ f.exponentBits - 1) * f.binade := Nat.mul_pos (by omega) hB
      omega)
    rw [h0, hr2] at hr
    cases hr; rfl
  · obtain ⟨d, kept, hn, h1, h2, h3, h4, h5⟩ := nearest_form f neg m e hm
    by_cases hfit : d * f.binade + kept < f.infRung
    · rw [hn, Nat.min_eq_left (Nat.le_of_lt hfit)] at hr
      obtain ⟨m2, e2, hr', hv⟩ := read_rung f neg d kept h1 h2 hfit
      rw [hr] at hr'
      cases hr'; rfl
    · exfalso
      rw [hn, Nat.min_eq_right (by omega)] at hr
      unfold Format.read at hr
      have hi := f.infRung_lt
      rw [word_rung _ _ _ hi] at hr
      have : ¬ f.infRung < f.binade := by
        have : f.infRung = (2 ^ f.exponentBits - 1) * f.binade := rfl
        rw [this]
        have : 1 * f.binade ≤ (2 ^ f.exponentBits - 1) * f.binade := Nat.mul_le_mul_right _ (by omega)
        omega
      simp [this] at hr

theorem rd_nearest (k : FloatKind) (s : Bool) (m : Nat) (e : Int) : Rd k (vd (.number s m e)) (k.format.nearest s m e) := by
  have hg := mg_nonneg m e
  refine ⟨?_, ?_, ?_, ?_⟩
  · intro E h1 h2 h3 h4
    have h : mg m e ≤ mg 1 E := by
      rw [← p2_mg]
      cases s
      · rw [vd_false] at h3; exact h3
      · rw [vd_true] at h4; grind
    obtain ⟨m', e', hr, hv⟩ := nearest_le k.format (exp3 k) s m e 1 E (one_le_B k) (by rw [least_eq]; exact h1) (top_gt k h2) h
    rw [← p2_mg] at hv
    have hg' := mg_nonneg m' e'
    refine ⟨⟨_, _, _, hr⟩, ?_, ?_⟩ <;> unfold fv <;> rw [hr] <;> cases s <;> simp only [vd_true, vd_false] <;> grind
  · intro E h1 ⟨s', m', e', hr⟩ h3
    have hs := nearest_sign k.format (exp3 k) s m e hr
    subst hs
    cases s'
    · rw [vd_false] at h3
      have := nearest_ge k.format (exp3 k) false m e 1 E (one_le_B k) (by rw [least_eq]; exact h1) (by rw [← p2_mg]; exact h3) hr
      unfold fv; rw [hr, vd_false, p2_mg]; exact this
    · exfalso
      rw [vd_true] at h3
      have := p2_pos E
      grind
  · intro h ⟨s', m', e', hr⟩
    have hs := nearest_sign k.format (exp3 k) s m e hr
    subst hs
    have hg' := mg_nonneg m' e'
    unfold fv; rw [hr]
    cases s'
    · exact hg'
    · rw [vd_true] at h ⊢
      have h0 : mg m e ≤ 0 := by grind
      have hm : m = 0 := by
        refine Classical.byContradiction fun hm => ?_
        have : mg 1 e ≤ mg m e := mg_le.2 (by omega)
        rw [← p2_mg] at this
        have := p2_pos e
        grind
      subst hm
      have h00 : k.format.nearest true 0 e = k.format.nearest true 0 0 := by unfold Format.nearest; simp
      have : k.format.read (k.format.nearest true 0 0) = .number true 0 (loP k) := by cases k <;> decide
      rw [h00, this] at hr
      cases hr
      rw [mg_zero]; grind
  · intro h ⟨s', m', e', hr⟩
    have hs := nearest_sign k.format (exp3 k) s m e hr
    subst hs
    have hg' := mg_nonneg m' e'
    unfold fv; rw [hr]
    cases s'
    · rw [vd_false] at h ⊢
      have hm : m = 0 := by
        refine Classical.byContradiction fun hm => ?_
        have : mg 1 e ≤ mg m e := mg_le.2 (by omega)
        rw [← p2_mg] at this
        have := p2_pos e
        grind
      subst hm
      have h00 : k.format.nearest false 0 e = k.format.nearest false 0 0 := by unfold Format.nearest; simp
      have : k.format.read (k.format.nearest false 0 0) = .number false 0 (loP k) := by cases k <;> decide
      rw [h00, this] at hr
      cases hr
      rw [mg_zero]; grind
    · rw [vd_true]; grind

/-! ### sums and products -/

theorem signed_val (s : Bool) (m k : Nat) (base : Int) : ((signed s m k : Int) : Rat) * p2 base = vd (.number s m (base + k)) := by
  unfold signed
  have h : mg m (base + k) = ((m <<< k : Nat) : Rat) * p2 base := by
    rw [mg_shift (show base ≤ base + k by omega), Nat.shiftLeft_eq]
    have : (base + ↑k - base).toNat = k := by omega
    rw [this]; rfl
  cases s
  · rw [vd_false, h]
    show (((m <<< k : Nat) : Int) : Rat) * _ = _
    rw [Rat.intCast_natCast]
  · rw [vd_true, h]
    show ((-((m <<< k : Nat) : Int) : Int) : Rat) * _ = _
    rw [Rat.intCast_neg, Rat.intCast_natCast, Rat.neg_mul]

theorem sum_num (s : Bool) (m : Nat) (i : Int) (t : Bool) (n : Nat) (j : Int) : ∃ s' m' e', (Datum.number s m i).sum (.number t n j) = some (.number s' m' e') ∧ vd (.number s' m' e') = vd (.number s m i) + vd (.number t n j) := by
  refine ⟨_, _, _, rfl, ?_⟩
  have h1 := signed_val s m (i - min i j).toNat (min i j)
  have h2 := signed_val t n (j - min i j).toNat (min i j)
  have e1 : min i j + ((i - min i j).toNat : Int) = i := by omega
  have e2 : min i j + ((j - min i j).toNat : Int) = j := by omega
  rw [e1] at h1; rw [e2] at h2
  rw [← h1, ← h2, ← Rat.add_mul, ← Rat.intCast_add]
  generalize signed s m (i - min i j).toNat + signed t n (j - min i j).toNat = T
  by_cases h0 : T = 0
  · subst h0
    simp only [if_pos]
    have : vd (.number (s && t) (Int.natAbs 0) (min i j)) = 0 := by cases s <;> cases t <;> simp [vd, mg]
    rw [this]; simp
  · rw [if_neg h0]
    by_cases hn : T < 0
    · have : (decide (T < 0)) = true := by simp [hn]
      rw [this, vd_true]
      have h3 : ((T.natAbs : Nat) : Int) = -T := by omega
      unfold mg
      rw [← Rat.intCast_natCast, h3]
      simp [Rat.neg_mul]
    · have : (decide (T < 0)) = false := by simp [hn]
      rw [this, vd_false]
      have h3 : ((T.natAbs : Nat) : Int) = T := by omega
      unfold mg
      rw [← Rat.intCast_natCast, h3]

theorem product_num (s : Bool) (m : Nat) (i : Int) (t : Bool) (n : Nat) (j : Int) : (Datum.number s m i).product (.number t n j) = some (.number (s ^^ t) (m * n) (i + j)) ∧ vd (.number (s ^^ t) (m * n) (i + j)) = vd (.number s m i) * vd (.number t n j) := by
  refine ⟨rfl, ?_⟩
  have : mg (m * n) (i + j) = mg m i * mg n j := by
    unfold mg; rw [p2_add, Rat.natCast_mul]; grind
  cases s <;> cases t <;> simp only [vd_true, vd_false, Bool.xor_false, Bool.xor_true, Bool.false_xor, Bool.true_xor, Bool.not_true, Bool.not_false, this] <;> grind

theorem neg_num (s : Bool) (m : Nat) (e : Int) : vd (Datum.number s m e).opposite = -(vd (.number s m e)) := by
  cases s <;> simp [Datum.opposite, vd]

theorem rd_add {k : FloatKind} {a b : Nat} (ha : Nm k a) (hb : Nm k b) : Rd k (fv k a + fv k b) (R.bin .add k a b) := by
  obtain ⟨s, m, i, ha⟩ := ha
  obtain ⟨t, n, j, hb⟩ := hb
  obtain ⟨s', m', e', hs, hv⟩ := sum_num s m i t n j
  have : R.bin .add k a b = k.format.nearest s' m' e' := by
    show (k.format.add a b).getD (nanOf k) = _
    unfold Format.add
    rw [ha, hb, hs]; rfl
  rw [this]; unfold fv; rw [ha, hb, ← hv]
  exact rd_nearest k s' m' e'
theorem rd_sub {k : FloatKind} {a b : Nat} (ha : Nm k a) (hb : Nm k b) : Rd k (fv k a - fv k b) (R.bin .sub k a b) := by
  obtain ⟨s, m, i, ha⟩ := ha
  obtain ⟨t, n, j, hb⟩ := hb
  obtain ⟨s', m', e', hs, hv⟩ := sum_num s m i (!t) n j
  have : R.bin .sub k a b = k.format.nearest s' m' e' := by
    show (k.format.sub a b).getD (nanOf k) = _
    unfold Format.sub
    rw [ha, hb, show (Datum.number t n j).opposite = .number (!t) n j from rfl, hs]; rfl
  have h2 : vd (.number (!t) n j) = -(vd (.number t n j)) := neg_num t n j
  rw [this]; unfold fv; rw [ha, hb, Rat.sub_eq_add_neg, ← h2, ← hv]
  exact rd_nearest k s' m' e'
theorem rd_mul {k : FloatKind} {a b : Nat} (ha : Nm k a) (hb : Nm k b) : Rd k (fv k a * fv k b) (R.bin .mul k a b) := by
  obtain ⟨s, m, i, ha⟩ := ha
  obtain ⟨t, n, j, hb⟩ := hb
  obtain ⟨hs, hv⟩ := product_num s m i t n j
  have : R.bin .mul k a b = k.format.nearest (s ^^ t) (m * n) (i + j) := by
    show (k.format.mul a b).getD (nanOf k) = _
    unfold Format.mul
    rw [ha, hb, hs]; rfl
  rw [this]; unfold fv; rw [ha, hb, ← hv]
  exact rd_nearest k _ _ _

/-! ### order -/

theorem order_num (s : Bool) (m : Nat) (i : Int) (t : Bool) (n : Nat) (j : Int) : (Datum.number s m i).order (.number t n j) = some (if vd (.number s m i) < vd (.number t n j) then .lt else if vd (.number s m i) = vd (.number t n j) then .eq else .gt) := by
  have h1 := signed_val s m (i - min i j).toNat (min i j)
  have h2 := signed_val t n (j - min i j).toNat (min i j)
  have e1 : min i j + ((i - min i j).toNat : Int) = i := by omega
  have e2 : min i j + ((j - min i j).toNat : Int) = j := by omega
  rw [e1] at h1; rw [e2] at h2
  have hd : (Datum.number s m i).order (.number t n j) = some (compare (signed s m (i - min i j).toNat) (signed t n (j - min i j).toNat)) := rfl
  rw [hd, ← h1, ← h2]
  generalize signed s m (i - min i j).toNat = x
  generalize signed t n (j - min i j).toNat = y
  have hp := p2_pos (min i j)
  have l1 : (x : Rat) * p2 (min i j) < (y : Rat) * p2 (min i j) ↔ x < y := by
    rw [Rat.mul_lt_mul_right hp]; exact Rat.intCast_lt_intCast
  have l2 : (x : Rat) * p2 (min i j) = (y : Rat) * p2 (min i j) ↔ x = y := by
    constructor
    · intro h
      have h3 : ¬ x < y := fun h4 => by have := l1.2 h4; grind
      have h4 : ¬ y < x := fun h4 => by
        have : (y : Rat) * p2 (min i j) < (x : Rat) * p2 (min i j) := by
          rw [Rat.mul_lt_mul_right hp]; exact Rat.intCast_lt_intCast.2 h4
        grind
      omega
    · intro h; rw [h]
  simp only [l1, l2]
  show some (compareOfLessAndEq x y) = _
  unfold compareOfLessAndEq
  split <;> rfl

theorem order_nm {k : FloatKind} {a b : Nat} (ha : Nm k a) (hb : Nm k b) : k.format.order a b = some (if fv k a < fv k b then .lt else if fv k a = fv k b then .eq else .gt) := by
  obtain ⟨s, m, i, ha⟩ := ha
  obtain ⟨t, n, j, hb⟩ := hb
  unfold Format.order fv
  rw [ha, hb]
  exact order_num ..

theorem lss_nm {k : FloatKind} {a b : Nat} (ha : Nm k a) (hb : Nm k b) : R.cmp .lss k a b = decide (fv k a < fv k b) := by
  show flt k a b = _
  unfold flt
  rw [order_nm ha hb]
  by_cases h : fv k a < fv k b
  · simp [h]
  · by_cases h2 : fv k a = fv k b <;> simp [h, h2]
theorem gtr_nm {k : FloatKind} {a b : Nat} (ha : Nm k a) (hb : Nm k b) : R.cmp .gtr k a b = decide (fv k b < fv k a) := by
  show fgt k a b = _
  unfold fgt
  rw [order_nm ha hb]
  by_cases h : fv k a < fv k b
  · have : ¬ fv k b < fv k a := by grind
    simp [h, this]
  · by_cases h2 : fv k a = fv k b
    · simp [h2]
    · have : fv k b < fv k a := by grind
      simp [h, h2, this]
theorem leq_nm {k : FloatKind} {a b : Nat} (ha : Nm k a) (hb : Nm k b) : R.cmp .leq k a b = decide (fv k a ≤ fv k b) := by
  show fle k a b = _
  unfold fle
  rw [order_nm ha hb]
  by_cases h : fv k a < fv k b
  · have : fv k a ≤ fv k b := Rat.le_of_lt h
    simp [h, this]
  · by_cases h2 : fv k a = fv k b
    · simp [h2]
    · have : ¬ fv k a ≤ fv k b := by grind
      simp [h, h2, this]
theorem geq_nm {k : FloatKind} {a b : Nat} (ha : Nm k a) (hb : Nm k b) : R.cmp .geq k a b = decide (fv k b ≤ fv k a) := by
  show fge k a b = _
  unfold fge
  rw [order_nm ha hb]
  by_cases h : fv k a < fv k b
  · have : ¬ fv k b ≤ fv k a := by grind
    simp [h, this]
  · by_cases h2 : fv k a = fv k b
    · simp [h2]
    · have : fv k b ≤ fv k a := by grind
      simp [h, h2, this]
theorem eql_nm {k : FloatKind} {a b : Nat} (ha : Nm k a) (hb : Nm k b) : R.cmp .eql k a b = decide (fv k a = fv k b) := by
  show feq k a b = _
  unfold feq
  rw [order_nm ha hb]
  by_cases h : fv k a < fv k b
  · have : ¬ fv k a = fv k b := by grind
    simp [h, this]
  · by_cases h2 : fv k a = fv k b <;> simp [h, h2]

end Go.Cv
