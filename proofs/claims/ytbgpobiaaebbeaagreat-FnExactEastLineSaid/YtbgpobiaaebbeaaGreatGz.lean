/- Fz, Gk, Gw, Gx: merged by merge.py. -/
import Derived.Test.YtbgpobiaaebbeaaGreatGa
import Derived.Test.YtbgpobiaaebbeaaGreatNc
import Derived.Test.YtbgpobiaaebbeaaGreatLw

/- Words that say the same number are the same; the size of a number. -/
namespace Go.Dv
open Go.Cv
open Ieee

theorem read_cases (f : Format) {a : Nat} {s : Bool} {m : Nat} {e : Int} (h : f.read a = .number s m e) :
    s = (a / f.signWeight % 2 == 1) ∧ ((a % f.signWeight < f.binade ∧ m = a % f.signWeight ∧ e = f.leastPlace) ∨
      (f.binade ≤ m ∧ m < 2 * f.binade ∧ ∃ d : Nat, e = f.leastPlace + d ∧ a % f.signWeight = d * f.binade + m)) := by
  unfold Format.read at h
  have hB : 0 < f.binade := Nat.two_pow_pos _
  simp only at h
  generalize hr : a % f.signWeight = r at *
  by_cases h1 : r < f.binade
  · rw [if_pos h1] at h
    cases h
    exact ⟨rfl, .inl ⟨h1, rfl, rfl⟩⟩
  · rw [if_neg h1] at h
    by_cases h2 : r < f.infRung
    · rw [if_pos h2] at h
      cases h
      have h3 : r % f.binade < f.binade := Nat.mod_lt _ hB
      refine ⟨rfl, .inr ⟨by omega, by omega, r / f.binade - 1, rfl, ?_⟩⟩
      have h4 : 1 ≤ r / f.binade := (Nat.le_div_iff_mul_le hB).2 (by omega)
      have h5 : r / f.binade * f.binade + r % f.binade = r := by rw [Nat.mul_comm]; exact Nat.div_add_mod r f.binade
      have h6 : r / f.binade * f.binade = (r / f.binade - 1) * f.binade + f.binade := by
        rw [← Nat.succ_mul]; congr 1; omega
      omega
    · rw [if_neg h2] at h
      by_cases h3 : r = f.infRung
      · rw [if_pos h3] at h; cases h
      · rw [if_neg h3] at h; cases h

/-- what is narrowed of a word that is a float32's number, is that number -/
theorem nar_exact {x : Nat} {s : Bool} {m m' : Nat} {e e' : Int} (hx : FloatKind.f64.format.read x = .number s m' e') (hm : m < 2 ^ 24) (he : -149 ≤ e) (ht : mg m e < topOf FloatKind.f32.format) (hv : mg m' e' = mg m e) :
    ∃ m1 e1, FloatKind.f32.format.read (R.nar x) = .number s m1 e1 ∧ mg m1 e1 = mg m e := by
  obtain ⟨m1, e1, h1, h2⟩ := nearest_exact FloatKind.f32.format (exp3 .f32) s m' e' m e (by rw [B32]; omega) (by rw [least_eq]; exact he) ht hv
  refine ⟨m1, e1, ?_, h2⟩
  rw [← h1]
  have hn : isNan .f64 x = false := nm_not_nan ⟨_, _, _, hx⟩
  have : R.nar x = FloatKind.f32.format.nearest s m' e' := by
    show (fconv .f64 x .f32).getD 0 = _
    unfold fconv floatToFloatBits FloatKind.decode FloatKind.encode
    rw [hn, hx]
    simp only [Format.write, h1, Datum.isInfinity]
    rfl
  rw [this]

end Go.Dv

/- Bounds of both kinds of floats; what is the same number in other digits; halves. -/
namespace Go.Dv
open Go.Cv
open Ieee

/-- a number no greater than a power of two -/
def Bk (k : FloatKind) (a : Nat) (E : Int) : Prop := Nm k a ∧ fv k a ≤ p2 E ∧ -(fv k a) ≤ p2 E

/-- what fits, narrowed -/
theorem nar_form {x : Nat} {s : Bool} {m : Nat} {e : Int} (hx : FloatKind.f64.format.read x = .number s m e) (h : R.narOk x = true) : R.nar x = FloatKind.f32.format.nearest s m e := by
  have hn : isNan .f64 x = false := nm_not_nan ⟨_, _, _, hx⟩
  have key : fconv .f64 x .f32 = bif (FloatKind.f32.format.read (FloatKind.f32.format.nearest s m e)).isInfinity then none else some (FloatKind.f32.format.nearest s m e) := by
    unfold fconv floatToFloatBits FloatKind.decode FloatKind.encode
    rw [hn, hx]
    cases hc : (FloatKind.f32.format.read (FloatKind.f32.format.nearest s m e)).isInfinity <;> simp [Format.write, hc]
  have h : (fconv .f64 x .f32).isSome = true := h
  show (fconv .f64 x .f32).getD 0 = _
  rw [key] at h ⊢
  cases hc : (FloatKind.f32.format.read (FloatKind.f32.format.nearest s m e)).isInfinity
  · rfl
  · rw [hc] at h; cases h
theorem bk_nar {x : Nat} {E : Int} (h : Bd x E) (h1 : -149 ≤ E) (h2 : E ≤ 127) : Bk .f32 (R.nar x) E := by
  have hk := bd_narOk h h2
  obtain ⟨⟨s, m, e, hr⟩, h3, h4⟩ := h
  rw [nar_form hr hk]
  unfold fv at h3 h4
  rw [hr] at h3 h4
  exact (rd_nearest .f32 s m e).le E h1 h2 h3 h4

/-! ### products in both orders -/
theorem product_comm (d e : Datum) : d.product e = e.product d := by
  cases d <;> cases e <;> simp [Datum.product, Nat.mul_comm, Int.add_comm, Bool.xor_comm]
theorem mul_comm' (k : FloatKind) (a b : Nat) : R.bin .mul k a b = R.bin .mul k b a := by
  show (k.format.mul a b).getD (nanOf k) = (k.format.mul b a).getD (nanOf k)
  unfold Format.mul
  rw [product_comm]

/-! ### the same number in other digits -/
theorem cut_two (neg : Bool) {n : Nat} (d : Nat) (hn : n ≠ 0) : Toward.even.cut neg (2 * n) (d + 1) = Toward.even.cut neg n d := by
  unfold Toward.cut
  have h1 : min (d + 1) ((2 * n).log2 + 2) = min d (n.log2 + 2) + 1 := by rw [Nat.log2_two_mul hn]; omega
  simp only [h1]
  generalize min d (n.log2 + 2) = x
  have h2 : 1 <<< (x + 1) = 2 * (1 <<< x) := by rw [Nat.shiftLeft_eq, Nat.shiftLeft_eq, Nat.pow_succ]; omega
  rw [h2]
  generalize 1 <<< x = g
  rw [Nat.mul_div_mul_left _ _ (by decide), Nat.mul_mod_mul_left]
  generalize n % g = r
  generalize n / g = l
  have e1 : decide (2 * g < 2 * (2 * r)) = decide (g < 2 * r) := decide_eq_decide.2 (by omega)
  have e2 : (2 * g == 2 * (2 * r)) = (g == 2 * r) := by
    rw [Bool.eq_iff_iff, beq_iff_eq, beq_iff_eq]; omega
  rw [e1, e2]

theorem nearest_two (f : Format) (neg : Bool) {m : Nat} (e : Int) (hm : m ≠ 0) : f.nearest neg (2 * m) (e - 1) = f.nearest neg m e := by
  unfold Format.nearest
  rw [if_neg hm, if_neg (by omega)]
  have h1 : e - 1 + ((2 * m).log2 : Int) - (f.fractionBits : Int) = e + (m.log2 : Int) - (f.fractionBits : Int) := by rw [Nat.log2_two_mul hm]; omega
  simp only [h1]
  generalize max (e + (m.log2 : Int) - (f.fractionBits : Int)) f.leastPlace = last
  have key : Toward.even.cut neg ((2 * m) <<< (e - 1 - last).toNat) (last - (e - 1)).toNat = Toward.even.cut neg (m <<< (e - last).toNat) (last - e).toNat := by
    by_cases h : last ≤ e - 1
    · have a1 : (last - (e - 1)).toNat = (last - e).toNat := by omega
      have a2 : (e - last).toNat = (e - 1 - last).toNat + 1 := by omega
      rw [a1, a2, Nat.shiftLeft_eq, Nat.shiftLeft_eq, Nat.pow_succ]
      congr 1
      rw [Nat.mul_comm 2 m, Nat.mul_assoc, Nat.mul_comm 2]
    · have a1 : (last - (e - 1)).toNat = (last - e).toNat + 1 := by omega
      have a2 : (e - 1 - last).toNat = 0 := by omega
      have a3 : (e - last).toNat = 0 := by omega
      rw [a1, a2, a3, Nat.shiftLeft_zero, Nat.shiftLeft_zero]
      exact cut_two neg _ hm
  rw [key]

theorem nearest_pow (f : Format) (neg : Bool) {m : Nat} (e : Int) (k : Nat) : f.nearest neg (m * 2 ^ k) (e - k) = f.nearest neg m e := by
  by_cases hm : m = 0
  · subst hm
    rw [Nat.zero_mul]
    unfold Format.nearest
    rw [if_pos rfl, if_pos rfl]
  · induction k with
    | zero => simp
    | succ k ih =>
      have h1 : m * 2 ^ (k + 1) = 2 * (m * 2 ^ k) := by rw [Nat.pow_succ, ← Nat.mul_assoc, Nat.mul_comm]
      have h2 : e - ((k + 1 : Nat) : Int) = (e - (k : Int)) - 1 := by omega
      rw [h1, h2, nearest_two f neg _ (Nat.mul_ne_zero hm (by have := Nat.two_pow_pos k; omega)), ih]

theorem half_eq (d : Nat) : R.bin .quo .f32 d 1073741824 = R.bin .mul .f32 1056964608 d := by
  show (FloatKind.f32.format.div d 1073741824).getD (nanOf .f32) = (FloatKind.f32.format.mul 1056964608 d).getD (nanOf .f32)
  unfold Format.div Format.mul
  have r2 : FloatKind.f32.format.read 1073741824 = .number false 8388608 (-22) := by decide
  have rh : FloatKind.f32.format.read 1056964608 = .number false 8388608 (-24) := by decide
  rw [r2, rh]
  cases hd : FloatKind.f32.format.read d with
  | nan s t => rfl
  | infinity s => cases s <;> rfl
  | number s m i =>
    obtain ⟨hm, _, _⟩ := read32_e d hd
    have hl : m.log2 ≤ 23 := by
      by_cases h0 : m = 0
      · subst h0; decide
      · have := (Nat.log2_lt h0).2 hm; omega
    have e8 : Nat.log2 8388608 = 23 := by decide
    have ef : FloatKind.f32.format.fractionBits = 23 := rfl
    simp only [Datum.quotient, Datum.product, e8, ef, if_neg (show ¬ (8388608 : Nat) = 0 by decide), Option.map_some, Option.getD_some, Format.write, Bool.xor_false, Bool.false_xor]
    obtain ⟨c, hc⟩ : ∃ c, 23 + 2 + 23 - m.log2 = c + 23 := ⟨25 - m.log2, by omega⟩
    rw [hc]
    have h1 : m <<< (c + 23) = 8388608 * (m * 2 ^ c) := by
      rw [Nat.shiftLeft_eq, Nat.pow_add]
      have : (2 : Nat) ^ 23 = 8388608 := by decide
      rw [this, Nat.mul_comm 8388608, Nat.mul_assoc]
    rw [h1, Nat.mul_div_cancel_left _ (by decide), Nat.mul_mod_right]
    have h2 : 2 * (m * 2 ^ c) + (0 != 0 : Bool).toNat = m * 2 ^ (c + 1) := by
      rw [Nat.pow_succ]
      show 2 * (m * 2 ^ c) + 0 = _
      rw [Nat.add_zero, Nat.mul_comm 2, Nat.mul_assoc]
    rw [h2]
    have h3 : i - -22 - ((c + 23 : Nat) : Int) - 1 = (i - 1) - ((c + 1 : Nat) : Int) := by omega
    have h4 : -24 + i = (i - 1) - ((23 : Nat) : Int) := by omega
    have h5 : 8388608 * m = m * 2 ^ 23 := by rw [Nat.mul_comm]
    rw [h3, h4, h5, nearest_pow, nearest_pow]

/-! ### a difference against a number of few digits -/
theorem sub_mg {k : FloatKind} {a b : Nat} (ha : Nm k a) (hb : Nm k b) {mc : Nat} {ec : Int} (hm : mc ≤ 2 * k.format.binade) (he : loP k ≤ ec) (ht : mg mc ec < topOf k.format) (h0 : 0 ≤ fv k a - fv k b) (h : fv k a - fv k b ≤ mg mc ec) :
    Nm k (R.bin .sub k a b) ∧ 0 ≤ fv k (R.bin .sub k a b) ∧ fv k (R.bin .sub k a b) ≤ mg mc ec := by
  have hrd := rd_sub ha hb
  obtain ⟨s, m, i, ra⟩ := ha
  obtain ⟨t, n, j, rb⟩ := hb
  obtain ⟨s', m', e', q1, q2⟩ := sum_num s m i (!t) n j
  have hform : R.bin .sub k a b = k.format.nearest s' m' e' := by
    show (k.format.sub a b).getD (nanOf k) = _
    unfold Format.sub
    rw [ra, rb]
    show (((Datum.number s m i).sum (.number (!t) n j)).map k.format.write).getD _ = _
    rw [q1]; rfl
  have hv : vd (.number s' m' e') = fv k a - fv k b := by
    rw [q2]
    unfold fv
    rw [ra, rb]
    cases t
    · rw [Bool.not_false, vd_true, vd_false (m := n)]; grind
    · rw [Bool.not_true, vd_false (m := n), vd_true]; grind
  have hg := mg_nonneg m' e'
  have hle : mg m' e' ≤ mg mc ec := by
    cases s'
    · rw [vd_false] at hv; rw [hv]; exact h
    · rw [vd_true] at hv; have := mg_nonneg mc ec; grind
  obtain ⟨m2, e2, r2, h2⟩ := nearest_le k.format (exp3 k) s' m' e' mc ec hm (by rw [least_eq]; exact he) ht hle
  rw [← hform] at r2
  have hN : Nm k (R.bin .sub k a b) := ⟨_, _, _, r2⟩
  refine ⟨hN, hrd.pos h0 hN, ?_⟩
  have hg2 := mg_nonneg m2 e2
  unfold fv
  rw [r2]
  cases s'
  · rw [vd_false]; exact h2
  · rw [vd_true]; grind
end Go.Dv

/- Rounding keeps the order against every word; the cosine is not small between -0.24 and 0.24; an east that is wrapped is one. -/
namespace Go.Dv
open Go.Cv
open Ieee

theorem read_fits (k : FloatKind) {a : Nat} {s : Bool} {m : Nat} {e : Int} (h : k.format.read a = .number s m e) : m ≤ 2 * k.format.binade ∧ loP k ≤ e ∧ mg m e < topOf k.format := by
  have hB : 0 < k.format.binade := Nat.two_pow_pos _
  have hlt : a % k.format.signWeight < k.format.infRung := by
    have h' := h
    unfold Format.read at h'
    simp only at h'
    have hb : k.format.binade ≤ k.format.infRung := by cases k <;> decide
    split at h'
    · rename_i h1; omega
    · split at h'
      · rename_i h2; exact h2
      · split at h' <;> cases h'
  obtain ⟨_, c⟩ := read_cases k.format h
  have hl := least_eq k
  have h3 := exp3 k
  have hr : k.format.infRung = (2 ^ k.format.exponentBits - 1) * k.format.binade := rfl
  have key : ∀ d : Nat, d * k.format.binade + m < k.format.infRung → k.format.binade ≤ m → m < 2 * k.format.binade → mg m (k.format.leastPlace + d) < topOf k.format := by
    intro d h1 h2 h6
    have h4 : (d + 1) * k.format.binade < (2 ^ k.format.exponentBits - 1) * k.format.binade := by rw [Nat.add_mul, Nat.one_mul, ← hr]; omega
    have h5 : d + 1 < 2 ^ k.format.exponentBits - 1 := Nat.lt_of_mul_lt_mul_right h4
    have h8 : k.format.leastPlace + (d : Int) + 1 ≤ k.format.leastPlace + ((2 ^ k.format.exponentBits - 2 : Nat) : Int) := by
      generalize 2 ^ k.format.exponentBits = Z at h5 ⊢
      omega
    have h9 : mg (2 * k.format.binade) (k.format.leastPlace + d) ≤ topOf k.format := by
      rw [mg_double]; exact mg_mono h8
    refine Rat.not_le.1 fun hc => ?_
    have := mg_le.1 (Rat.le_trans h9 hc)
    omega
  rcases c with ⟨x1, x2, x3⟩ | ⟨x1, x2, d, x3, x4⟩
  · refine ⟨by omega, by omega, ?_⟩
    refine top_of (by omega) ?_
    have : loP k + 1 ≤ topE k := by cases k <;> decide
    rw [x3]; omega
  · refine ⟨by omega, by omega, ?_⟩
    rw [x3]; exact key d (by omega) x1 x2

/-- the word n is v, rounded: no word lies between -/
structure Rc (k : FloatKind) (v : Rat) (n : Nat) : Prop where
  le : ∀ c, Nm k c → Nm k n → v ≤ fv k c → fv k n ≤ fv k c
  ge : ∀ c, Nm k c → Nm k n → fv k c ≤ v → fv k c ≤ fv k n

theorem rc_nearest (k : FloatKind) (s : Bool) (m : Nat) (e : Int) : Rc k (vd (.number s m e)) (k.format.nearest s m e) := by
  have up : ∀ mc ec, mc ≤ 2 * k.format.binade → loP k ≤ ec → mg mc ec < topOf k.format → mg m e ≤ mg mc ec → ∀ s' m' e', k.format.read (k.format.nearest s m e) = .number s' m' e' → mg m' e' ≤ mg mc ec := by
    intro mc ec h1 h2 h3 h4 s' m' e' hr
    obtain ⟨m2, e2, r2, h5⟩ := nearest_le k.format (exp3 k) s m e mc ec h1 (by rw [least_eq]; exact h2) h3 h4
    rw [hr] at r2; cases r2; exact h5
  have dn : ∀ mc ec, mc ≤ 2 * k.format.binade → loP k ≤ ec → mg mc ec ≤ mg m e → ∀ s' m' e', k.format.read (k.format.nearest s m e) = .number s' m' e' → mg mc ec ≤ mg m' e' := by
    intro mc ec h1 h2 h4 s' m' e' hr
    have hs := nearest_sign k.format (exp3 k) s m e hr
    subst hs
    exact nearest_ge k.format (exp3 k) s' m e mc ec h1 (by rw [least_eq]; exact h2) h4 hr
  have hg := mg_nonneg m e
  constructor
  · intro c ⟨t, mc, ec, hc⟩ ⟨s', m', e', hn⟩ h
    obtain ⟨f1, f2, f3⟩ := read_fits k hc
    have hs := nearest_sign k.format (exp3 k) s m e hn
    subst hs
    have hgc := mg_nonneg mc ec
    have hg' := mg_nonneg m' e'
    unfold fv at h ⊢
    rw [hc] at h ⊢; rw [hn]
    cases s' <;> cases t <;> simp only [vd_true, vd_false] at h ⊢
    · exact up mc ec f1 f2 f3 h _ _ _ hn
    · have := up mc ec f1 f2 f3 (by grind) _ _ _ hn
      grind
    · grind
    · have := dn mc ec f1 f2 (by grind) _ _ _ hn
      grind
  · intro c ⟨t, mc, ec, hc⟩ ⟨s', m', e', hn⟩ h
    obtain ⟨f1, f2, f3⟩ := read_fits k hc
    have hs := nearest_sign k.format (exp3 k) s m e hn
    subst hs
    have hgc := mg_nonneg mc ec
    have hg' := mg_nonneg m' e'
    unfold fv at h ⊢
    rw [hc] at h ⊢; rw [hn]
    cases s' <;> cases t <;> simp only [vd_true, vd_false] at h ⊢
    · exact dn mc ec f1 f2 h _ _ _ hn
    · grind
    · have := up mc ec f1 f2 f3 (by grind) _ _ _ hn
      grind
    · have := up mc ec f1 f2 f3 (by grind) _ _ _ hn
      grind

theorem rc_add {k : FloatKind} {a b : Nat} (ha : Nm k a) (hb : Nm k b) : Rc k (fv k a + fv k b) (R.bin .add k a b) := by
  obtain ⟨s, m, i, ha⟩ := ha
  obtain ⟨t, n, j, hb⟩ := hb
  obtain ⟨s', m', e', hs, hv⟩ := sum_num s m i t n j
  have : R.bin .add k a b = k.format.nearest s' m' e' := by
    show (k.format.add a b).getD (nanOf k) = _
    unfold Format.add
    rw [ha, hb, hs]; rfl
  rw [this]; unfold fv; rw [ha, hb, ← hv]
  exact rc_nearest k s' m' e'
theorem rc_sub {k : FloatKind} {a b : Nat} (ha : Nm k a) (hb : Nm k b) : Rc k (fv k a - fv k b) (R.bin .sub k a b) := by
  obtain ⟨s, m, i, ha⟩ := ha
  obtain ⟨t, n, j, hb⟩ := hb
  obtain ⟨s', m', e', hs, hv⟩ := sum_num s m i (!t) n j
  have : R.bin .sub k a b = k.format.nearest s' m' e' := by
    show (k.format.sub a b).getD (nanOf k) = _
    unfold Format.sub
    rw [ha, hb, show (Datum.number t n j).opposite = .number (!t) n j from rfl, hs]; rfl
  have h2 : vd (.number (!t) n j) = -(vd (.number t n j)) := neg_num t n j
  rw [this]; unfold fv; rw [ha, hb, Rat.sub_eq_add_neg, ← h2, ← hv]
  exact rc_nearest k s' m' e'
theorem rc_mul {k : FloatKind} {a b : Nat} (ha : Nm k a) (hb : Nm k b) : Rc k (fv k a * fv k b) (R.bin .mul k a b) := by
  obtain ⟨s, m, i, ha⟩ := ha
  obtain ⟨t, n, j, hb⟩ := hb
  obtain ⟨hs, hv⟩ := product_num s m i t n j
  have : R.bin .mul k a b = k.format.nearest (s ^^ t) (m * n) (i + j) := by
    show (k.format.mul a b).getD (nanOf k) = _
    unfold Format.mul
    rw [ha, hb, hs]; rfl
  rw [this]; unfold fv; rw [ha, hb, ← hv]
  exact rc_nearest k _ _ _

/-! ### the cosine from below -/
theorem p2_m1 : p2 (-1) = 1 / 2 := by decide +kernel
theorem fv_q32 : fv .f32 1048576000 = 1 / 4 := by decide +kernel
theorem nm_q32 : Nm .f32 1048576000 := ⟨_, _, _, rfl⟩
theorem fv_q64 : fv .f64 4598175219545276416 = 1 / 4 := by decide +kernel

end Go.Dv

/- An east that is wrapped lies between -0.5 and 0.5. -/
namespace Go.Dv
open Go.Cv
open Ieee

theorem cut_down_pos (n drop : Nat) : Toward.down.cut false n drop = n / 2 ^ drop := by
  rw [← cut_zero_eq false n drop]
  unfold Toward.cut
  simp only [Bool.false_and]
theorem le_cut_down (n drop : Nat) : n ≤ Toward.down.cut true n drop * 2 ^ drop := by
  unfold Toward.cut
  simp only [Nat.one_shiftLeft, Bool.true_and]
  have hg : 2 ^ min drop (n.log2 + 2) ≤ 2 ^ drop := Nat.pow_le_pow_right (by decide) (Nat.min_le_left _ _)
  have hp : 0 < 2 ^ min drop (n.log2 + 2) := Nat.two_pow_pos _
  generalize 2 ^ min drop (n.log2 + 2) = g at *
  have h1 := Nat.div_add_mod n g
  have h2 := Nat.mod_lt n hp
  have key : n ≤ (n / g + (n % g != 0).toNat) * g := by
    by_cases h0 : n % g = 0
    · rw [h0] at h1 ⊢
      rw [Nat.mul_comm] at h1
      show n ≤ (n / g + 0) * g
      rw [Nat.add_zero]; omega
    · have : (n % g != 0) = true := by simp [h0]
      rw [this]
      show n ≤ (n / g + 1) * g
      rw [Nat.add_mul, Nat.mul_comm (n / g)]
      omega
  exact Nat.le_trans key (Nat.mul_le_mul_left _ hg)

/-- the floor of a small number -/
theorem floor_val {r : Nat} (h : Nm .f32 r) (h1 : fv .f32 r ≤ 4) (h2 : -4 ≤ fv .f32 r) :
    Nm .f32 (R.nar (R.floor (R.wid r))) ∧ fv .f32 (R.nar (R.floor (R.wid r))) ≤ fv .f32 r ∧ -4 ≤ fv .f32 (R.nar (R.floor (R.wid r))) ∧
    (fv .f32 r < 1 → fv .f32 (R.nar (R.floor (R.wid r))) ≤ 0) ∧ (fv .f32 r < 2 → fv .f32 (R.nar (R.floor (R.wid r))) ≤ 1) := by
  obtain ⟨hw, hv⟩ := wid_nm h
  obtain ⟨s, m1, e1, hx⟩ := hw
  have hn : isNan .f64 (R.wid r) = false := nm_not_nan ⟨_, _, _, hx⟩
  have hf : R.floor (R.wid r) = FloatKind.f64.format.nearest s (Toward.down.cut s (m1 <<< e1.toNat) (-e1).toNat) 0 := by
    show ffloor .down (R.wid r) = _
    unfold ffloor
    rw [hn, decode_eq, hx]
    rw [if_neg (by decide)]
    unfold FloatKind.encode Datum.integral
    simp only [Format.write]
  have hvr : fv .f32 r = vd (.number s m1 e1) := by rw [← hv]; unfold fv; rw [hx]
  have hg := mg_nonneg m1 e1
  have hm4 : mg m1 e1 ≤ mg 4 0 := by
    rw [mg_nat0]
    have h4 : ((4 : Nat) : Rat) = 4 := rfl
    rw [h4]
    rw [hvr] at h1 h2
    cases s <;> simp only [vd_true, vd_false] at h1 h2 <;> grind
  have hK : Toward.down.cut s (m1 <<< e1.toNat) (-e1).toNat ≤ 4 := cut_down_le _ _ _ _ ((units_le _ _ _).1 hm4)
  have lo : s = false → mg (Toward.down.cut s (m1 <<< e1.toNat) (-e1).toNat) 0 ≤ mg m1 e1 := by
    intro hs; subst hs
    rw [cut_down_pos]
    exact wholeOf_le m1 e1
  have hi : s = true → mg m1 e1 ≤ mg (Toward.down.cut s (m1 <<< e1.toNat) (-e1).toNat) 0 := by
    intro hs; subst hs
    rw [units_le]
    exact le_cut_down _ _
  generalize Toward.down.cut s (m1 <<< e1.toNat) (-e1).toNat = K at *
  have ht : mg K 0 < topOf FloatKind.f32.format := top_of (by rw [B32]; omega) (by decide)
  obtain ⟨m2, e2, r2, v2⟩ := nearest_exact FloatKind.f64.format (exp3 .f64) s K 0 K 0 (by rw [B64]; omega) (by decide) (top_of (by rw [B64]; omega) (by decide)) rfl
  rw [← hf] at r2
  obtain ⟨m3, e3, r3, v3⟩ := nar_exact (m := K) (e := 0) r2 (by omega) (by decide) ht v2
  have hval : fv .f32 (R.nar (R.floor (R.wid r))) = vd (.number s K 0) := by
    unfold fv; rw [r3]; cases s <;> simp only [vd_true, vd_false, v3]
  have hK0 : mg K 0 = (K : Rat) := mg_nat0 K
  have hKn : (0 : Rat) ≤ (K : Rat) := nat_nonneg K
  have hK4 : (K : Rat) ≤ 4 := nat_mono hK
  refine ⟨⟨_, _, _, r3⟩, ?_, ?_, ?_, ?_⟩ <;> rw [hval] <;> try rw [hvr]
  · cases s
    · rw [vd_false, vd_false]; exact lo rfl
    · rw [vd_true, vd_true]; have := hi rfl; grind
  · cases s
    · rw [vd_false, hK0]; grind
    · rw [vd_true, hK0]; grind
  · intro hlt
    cases s
    · rw [vd_false] at hlt ⊢
      have a1 := lo rfl
      rw [hK0] at a1 ⊢
      have a2 : (K : Rat) < ((1 : Nat) : Rat) := by
        have : ((1 : Nat) : Rat) = 1 := rfl
        grind
      have a3 := Rat.natCast_lt_natCast.1 a2
      have : K = 0 := by omega
      rw [this]; exact Rat.le_refl
    · rw [vd_true, hK0]; grind
  · intro hlt
    cases s
    · rw [vd_false] at hlt ⊢
      have a1 := lo rfl
      rw [hK0] at a1 ⊢
      have a2 : (K : Rat) < ((2 : Nat) : Rat) := by
        have : ((2 : Nat) : Rat) = 2 := rfl
        grind
      have a3 := Rat.natCast_lt_natCast.1 a2
      exact nat_mono (show K ≤ 1 by omega)
    · rw [vd_true, hK0]; grind

theorem nm_h32 : Nm .f32 1056964608 := ⟨_, _, _, rfl⟩
theorem fv_h32 : fv .f32 1056964608 = 1 / 2 := by decide +kernel
theorem nm_nh32 : Nm .f32 3204448256 := ⟨_, _, _, rfl⟩
theorem fv_nh32 : fv .f32 3204448256 = -(1 / 2) := by decide +kernel
theorem nm_a32 : Nm .f32 1069547520 := ⟨_, _, _, rfl⟩
theorem fv_a32 : fv .f32 1069547520 = 3 / 2 := by decide +kernel
theorem nm_b32 : Nm .f32 1065353215 := ⟨_, _, _, rfl⟩
theorem fv_b32 : fv .f32 1065353215 = 1 - p2 (-24) := by decide +kernel
theorem p2_3 : p2 3 = 8 := by decide +kernel
theorem p2_1' : p2 1 = 2 := by decide +kernel

/-- a sum of which no digit is lost -/
theorem add_exact {a b : Nat} (ha : Nm .f32 a) (hb : Nm .f32 b) {mc : Nat} {ec : Int} (hm : mc ≤ 2 ^ 24) (he : -149 ≤ ec) (ht : mg mc ec < topOf FloatKind.f32.format) (hv : fv .f32 a + fv .f32 b = -(mg mc ec)) :
    fv .f32 (R.bin .add .f32 a b) = -(mg mc ec) := by
  obtain ⟨s, m, i, ha⟩ := ha
  obtain ⟨t, n, j, hb⟩ := hb
  obtain ⟨s', m', e', hs, hv'⟩ := sum_num s m i t n j
  have hform : R.bin .add .f32 a b = FloatKind.f32.format.nearest s' m' e' := by
    show (FloatKind.f32.format.add a b).getD (nanOf .f32) = _
    unfold Format.add
    rw [ha, hb, hs]; rfl
  have hvv : vd (.number s' m' e') = -(mg mc ec) := by
    rw [hv', ← hv]; unfold fv; rw [ha, hb]
  have hg := mg_nonneg m' e'
  have hgc := mg_nonneg mc ec
  have hmm : mg m' e' = mg mc ec := by
    cases s'
    · rw [vd_false] at hvv; grind
    · rw [vd_true] at hvv; grind
  obtain ⟨m2, e2, r2, v2⟩ := nearest_exact FloatKind.f32.format (exp3 .f32) s' m' e' mc ec (by rw [B32]; exact hm) (by rw [least_eq]; exact he) ht hmm
  rw [hform]
  unfold fv; rw [r2]
  cases s'
  · rw [vd_false] at hvv ⊢; rw [v2, ← hvv, hmm]
  · rw [vd_true, v2]

theorem add_read {a b c : Nat} (h : FloatKind.f32.format.read a = FloatKind.f32.format.read b) : R.bin .add .f32 a c = R.bin .add .f32 b c := by
  show (FloatKind.f32.format.add a c).getD (nanOf .f32) = (FloatKind.f32.format.add b c).getD (nanOf .f32)
  unfold Format.add
  rw [h]
theorem sub_read {a b c : Nat} (h : FloatKind.f32.format.read a = FloatKind.f32.format.read b) : R.bin .sub .f32 a c = R.bin .sub .f32 b c := by
  show (FloatKind.f32.format.sub a c).getD (nanOf .f32) = (FloatKind.f32.format.sub b c).getD (nanOf .f32)
  unfold Format.sub
  rw [h]

/-- between -0.5 and 0.5 -/
def InH (x : Nat) : Prop := Nm .f32 x ∧ -(1 / 2) ≤ fv .f32 x ∧ fv .f32 x < 1 / 2

theorem p2_lt {m : Nat} {e : Int} (hm : m < 2 ^ 24) {E : Int} (h : p2 E < mg m e) : E < 24 + e := by
  refine Classical.byContradiction fun hc => ?_
  have h1 : mg m e ≤ mg (2 ^ 24) e := mg_le.2 (by omega)
  have h2 : mg (2 ^ 24) e = p2 (24 + e) := by
    unfold mg; rw [p2_add, ← p2_nat]; rfl
  have h3 : p2 (24 + e) ≤ p2 E := p2_mono (by omega)
  rw [h2] at h1
  have := Rat.le_trans h1 h3
  grind

/-- below -0.5 the sum with 0.5 is exact -/
theorem low_exact {x : Nat} (hx : Nm .f32 x) (h1 : -1 ≤ fv .f32 x) (h2 : fv .f32 x < -(1 / 2)) : fv .f32 (R.bin .add .f32 x 1056964608) = fv .f32 x + 1 / 2 := by
  have hN := hx
  obtain ⟨s, m, e, hr⟩ := hx
  obtain ⟨b1, b2, _⟩ := read32_e x hr
  have hg := mg_nonneg m e
  have hv : fv .f32 x = -(mg m e) := by
    unfold fv at h2 ⊢; rw [hr] at h2 ⊢
    cases s
    · rw [vd_false] at h2; exfalso; grind
    · rfl
  rw [hv] at h1 h2
  have he : -25 < e := by
    have := p2_lt (e := e) (E := -1) b1 (by rw [p2_m1]; grind)
    omega
  have key : ∃ mc ec, mc ≤ 2 ^ 24 ∧ -149 ≤ ec ∧ mg mc ec < topOf FloatKind.f32.format ∧ fv .f32 x + 1 / 2 = -(mg mc ec) := by
    by_cases hc : e ≤ -1
    · have hhalf : mg (2 ^ (-1 - e).toNat) e = 1 / 2 := by
        have : mg (2 ^ (-1 - e).toNat) e = p2 (-1) := by
          unfold mg
          rw [← p2_nat, ← p2_add]
          congr 1; omega
        rw [this, p2_m1]
      have hle : 2 ^ (-1 - e).toNat ≤ m := by
        have h5 : mg (2 ^ (-1 - e).toNat) e ≤ mg m e := by rw [hhalf]; grind
        exact mg_le.1 h5
      have hsl : m - 2 ^ (-1 - e).toNat ≤ m := Nat.sub_le _ _
      refine ⟨m - 2 ^ (-1 - e).toNat, e, Nat.le_trans hsl (Nat.le_of_lt b1), b2, ?_, ?_⟩
      · exact top_of (by rw [B32]; have := Nat.le_trans hsl (Nat.le_of_lt b1); exact this) (by show e + 1 ≤ 104; omega)
      · rw [hv]
        have hsub : mg (m - 2 ^ (-1 - e).toNat) e = mg m e - mg (2 ^ (-1 - e).toNat) e := by
          have h5 : mg m e = mg (m - 2 ^ (-1 - e).toNat) e + mg (2 ^ (-1 - e).toNat) e := by
            unfold mg
            rw [← Rat.add_mul, ← Rat.natCast_add, Nat.sub_add_cancel hle]
          grind
        rw [hsub, hhalf]; grind
    · have h6 : mg m e = 1 := by
        have hm : 1 ≤ m := by
          rcases Nat.eq_zero_or_pos m with h0 | h0
          · subst h0; rw [mg_zero] at h2; exfalso; grind
          · exact h0
        have h7 : mg 1 0 ≤ mg m e := Rat.le_trans (mg_mono (show (0 : Int) ≤ e by omega)) (mg_le.2 hm)
        have h8 : mg 1 0 = 1 := by rw [mg_nat0]; rfl
        grind
      refine ⟨1, -1, by decide, by decide, top_of (by rw [B32]; omega) (by decide), ?_⟩
      rw [hv, h6, ← p2_mg, p2_m1]; grind
  obtain ⟨mc, ec, k1, k2, k3, k4⟩ := key
  rw [k4]
  exact add_exact hN nm_h32 k1 k2 k3 (by rw [fv_h32]; exact k4)

/-- the last word below 0.5 -/
theorem last_read {x : Nat} (hx : Nm .f32 x) (h1 : 1 / 2 - p2 (-24) < fv .f32 x) (h2 : fv .f32 x < 1 / 2) : FloatKind.f32.format.read x = FloatKind.f32.format.read 1056964607 := by
  have hc : FloatKind.f32.format.read 1056964607 = .number false 16777215 (-25) := by decide
  have p24 : p2 (-24) = 1 / 16777216 := by decide +kernel
  have p25 : p2 (-25) = 1 / 33554432 := by decide +kernel
  have p2m2 : p2 (-2) = 1 / 4 := by decide +kernel
  rw [p24] at h1
  obtain ⟨s, m, e, hr⟩ := hx
  obtain ⟨b1, b2, _⟩ := read32_e x hr
  have hg := mg_nonneg m e
  have hs : s = false := by
    cases s
    · rfl
    · unfold fv at h1; rw [hr, vd_true] at h1; exfalso; grind
  subst hs
  have hv : fv .f32 x = mg m e := by unfold fv; rw [hr]; rfl
  rw [hv] at h1 h2
  have he : -26 < e := by
    have := p2_lt (e := e) (E := -2) b1 (by rw [p2m2]; grind)
    omega
  have he2 : e = -25 := by
    obtain ⟨_, c⟩ := read_cases FloatKind.f32.format hr
    have hB : FloatKind.f32.format.binade = 8388608 := by decide
    have hL : FloatKind.f32.format.leastPlace = -149 := by decide
    rcases c with ⟨_, _, x3⟩ | ⟨x1, _, _⟩
    · omega
    · refine Classical.byContradiction fun hcc => ?_
      have h3 : mg 8388608 (-24) ≤ mg m e := Rat.le_trans (mg_mono (show (-24 : Int) ≤ e by omega)) (mg_le.2 (by omega))
      have h4 : mg 8388608 (-24) = 1 / 2 := by decide +kernel
      rw [h4] at h3; grind
  subst he2
  have hm : m = 16777215 := by
    have h3 : mg 16777214 (-25) = 1 / 2 - 1 / 16777216 := by decide +kernel
    refine Nat.le_antisymm (by omega) ?_
    refine Classical.byContradiction fun hcc => ?_
    have h4 : mg m (-25) ≤ mg 16777214 (-25) := mg_le.2 (by omega)
    rw [h3] at h4; grind
  rw [hr, hc, hm]

theorem wrap_in {x : Nat} (hx : Nm .f32 x) (h1 : -1 ≤ fv .f32 x) (h2 : fv .f32 x ≤ 1) : InH (p_spec_l02Wrap R x) := by
  unfold p_spec_l02Wrap p_math_Floor
  by_cases hlast : 1 / 2 - p2 (-24) < fv .f32 x ∧ fv .f32 x < 1 / 2
  · have hr := last_read hx hlast.1 hlast.2
    rw [add_read hr, sub_read hr]
    have e1 : (bif R.cmp BinOp.geq FloatKind.f32 (R.bin BinOp.sub FloatKind.f32 1056964607 (R.nar (R.floor (R.wid (R.bin BinOp.add FloatKind.f32 1056964607 1056964608))))) 1056964608 then 3204448256 else R.bin BinOp.sub FloatKind.f32 1056964607 (R.nar (R.floor (R.wid (R.bin BinOp.add FloatKind.f32 1056964607 1056964608))))) = 3204448256 := by decide +kernel
    rw [e1]
    exact ⟨nm_nh32, by rw [fv_nh32]; exact Rat.le_refl, by rw [fv_nh32]; decide +kernel⟩
  have ha := rd_add hx nm_h32
  have hac := rc_add hx nm_h32
  rw [fv_h32] at ha hac
  obtain ⟨hNr, _, _⟩ := ha.le 1 (by decide) (by decide) (by rw [p2_1']; grind) (by rw [p2_1']; grind)
  have r15 := hac.le _ nm_a32 hNr (by rw [fv_a32]; grind)
  rw [fv_a32] at r15
  have r05 := hac.ge _ nm_nh32 hNr (by rw [fv_nh32]; grind)
  rw [fv_nh32] at r05
  have hlow := fun h => low_exact hx h1 h
  have hmid : fv .f32 x ≤ 1 / 2 - p2 (-24) → fv .f32 (R.bin .add .f32 x 1056964608) < 1 := by
    intro h
    have := hac.le _ nm_b32 hNr (by rw [fv_b32]; grind)
    rw [fv_b32] at this
    have := p2_pos (-24)
    grind
  generalize R.bin .add .f32 x 1056964608 = r at *
  obtain ⟨f1, f2, f3, f4, f5⟩ := floor_val hNr (by grind) (by grind)
  generalize R.nar (R.floor (R.wid r)) = n at *
  have hd : -(1 / 2) ≤ fv .f32 x - fv .f32 n := by
    by_cases c1 : fv .f32 x < -(1 / 2)
    · have := hlow c1; grind
    · by_cases c2 : fv .f32 x ≤ 1 / 2 - p2 (-24)
      · have := f4 (hmid c2); grind
      · have c3 : 1 / 2 ≤ fv .f32 x := by
          refine Classical.byContradiction fun hc => hlast ⟨by grind, by grind⟩
        have := f5 (by grind); grind
  have hs := rd_sub hx f1
  have hsc := rc_sub hx f1
  obtain ⟨hNs, _, _⟩ := hs.le 3 (by decide) (by decide) (by rw [p2_3]; grind) (by rw [p2_3]; grind)
  have g1 := hsc.ge _ nm_nh32 hNs (by rw [fv_nh32]; exact hd)
  rw [fv_nh32] at g1
  rw [geq_nm hNs nm_h32, fv_h32]
  by_cases c : 1 / 2 ≤ fv .f32 (R.bin .sub .f32 x n)
  · rw [decide_eq_true c, cond_true]
    exact ⟨nm_nh32, by rw [fv_nh32]; exact Rat.le_refl, by rw [fv_nh32]; decide +kernel⟩
  · rw [decide_eq_false c, cond_false]
    exact ⟨hNs, g1, by grind⟩
end Go.Dv
