/- Fz, Gk, Gw, Gx: merged by merge.py. -/
import Derived.Test.YtbgpobiaaebbeaaGreatGa
import Derived.Test.YtbgpobiaaebbeaaGreatNc
import Derived.Test.YtbgpobiaaebbeaaGreatLw

/- Words that say the same number are the same; the size of a number. -/
namespace Go.Dv
open Go.Cv
open Ieee

end Go.Dv

/- Bounds of both kinds of floats; what is the same number in other digits; halves. -/
namespace Go.Dv
open Go.Cv
open Ieee

/-- a number no greater than a power of two -/
def Bk (k : FloatKind) (a : Nat) (E : Int) : Prop := Nm k a ∧ fv k a ≤ p2 E ∧ -(fv k a) ≤ p2 E

/-- what fits, narrowed -/
theorem nar_form {x : Nat} {s : Bool} {m : Nat} {e : Int} (hx : FloatKind.f64.format.read x = .number s m e) (h : R.narOk x = true) : R.nar x = FloatKind.f32.format.nearest s m e := by
  have hn : isNan .f64 x = false := nm_not_nan ⟨_, _, _, hx⟩
  have key : fconv .f64 x .f32 = bif (FloatKind.f32.format.read (FloatKind.f32.format.nearest s m e)).isInfinity then none else some (FloatKind.f32.format.nearest s m e) := by
    unfold fconv floatToFloatBits FloatKind.decode FloatKind.encode
    rw [hn, hx]
    cases hc : (FloatKind.f32.format.read (FloatKind.f32.format.nearest s m e)).isInfinity <;> simp [Format.write, hc]
  have h : (fconv .f64 x .f32).isSome = true := h
  show (fconv .f64 x .f32).getD 0 = _
  rw [key] at h ⊢
  cases hc : (FloatKind.f32.format.read (FloatKind.f32.format.nearest s m e)).isInfinity
  · rfl
  · rw [hc] at h; cases h
theorem bk_nar {x : Nat} {E : Int} (h : Bd x E) (h1 : -149 ≤ E) (h2 : E ≤ 127) : Bk .f32 (R.nar x) E := by
  have hk := bd_narOk h h2
  obtain ⟨⟨s, m, e, hr⟩, h3, h4⟩ := h
  rw [nar_form hr hk]
  unfold fv at h3 h4
  rw [hr] at h3 h4
  exact (rd_nearest .f32 s m e).le E h1 h2 h3 h4

/-! ### products in both orders -/
theorem product_comm (d e : Datum) : d.product e = e.product d := by
  cases d <;> cases e <;> simp [Datum.product, Nat.mul_comm, Int.add_comm, Bool.xor_comm]
theorem mul_comm' (k : FloatKind) (a b : Nat) : R.bin .mul k a b = R.bin .mul k b a := by
  show (k.format.mul a b).getD (nanOf k) = (k.format.mul b a).getD (nanOf k)
  unfold Format.mul
  rw [product_comm]

/-! ### the same number in other digits -/
theorem cut_two (neg : Bool) {n : Nat} (d : Nat) (hn : n ≠ 0) : Toward.even.cut neg (2 * n) (d + 1) = Toward.even.cut neg n d := by
  unfold Toward.cut
  have h1 : min (d + 1) ((2 * n).log2 + 2) = min d (n.log2 + 2) + 1 := by rw [Nat.log2_two_mul hn]; omega
  simp only [h1]
  generalize min d (n.log2 + 2) = x
  have h2 : 1 <<< (x + 1) = 2 * (1 <<< x) := by rw [Nat.shiftLeft_eq, Nat.shiftLeft_eq, Nat.pow_succ]; omega
  rw [h2]
  generalize 1 <<< x = g
  rw [Nat.mul_div_mul_left _ _ (by decide), Nat.mul_mod_mul_left]
  generalize n % g = r
  generalize n / g = l
  have e1 : decide (2 * g < 2 * (2 * r)) = decide (g < 2 * r) := decide_eq_decide.2 (by omega)
  have e2 : (2 * g == 2 * (2 * r)) = (g == 2 * r) := by
    rw [Bool.eq_iff_iff, beq_iff_eq, beq_iff_eq]; omega
  rw [e1, e2]

theorem nearest_two (f : Format) (neg : Bool) {m : Nat} (e : Int) (hm : m ≠ 0) : f.nearest neg (2 * m) (e - 1) = f.nearest neg m e := by
  unfold Format.nearest
  rw [if_neg hm, if_neg (by omega)]
  have h1 : e - 1 + ((2 * m).log2 : Int) - (f.fractionBits : Int) = e + (m.log2 : Int) - (f.fractionBits : Int) := by rw [Nat.log2_two_mul hm]; omega
  simp only [h1]
  generalize max (e + (m.log2 : Int) - (f.fractionBits : Int)) f.leastPlace = last
  have key : Toward.even.cut neg ((2 * m) <<< (e - 1 - last).toNat) (last - (e - 1)).toNat = Toward.even.cut neg (m <<< (e - last).toNat) (last - e).toNat := by
    by_cases h : last ≤ e - 1
    · have a1 : (last - (e - 1)).toNat = (last - e).toNat := by omega
      have a2 : (e - last).toNat = (e - 1 - last).toNat + 1 := by omega
      rw [a1, a2, Nat.shiftLeft_eq, Nat.shiftLeft_eq, Nat.pow_succ]
      congr 1
      rw [Nat.mul_comm 2 m, Nat.mul_assoc, Nat.mul_comm 2]
    · have a1 : (last - (e - 1)).toNat = (last - e).toNat + 1 := by omega
      have a2 : (e - 1 - last).toNat = 0 := by omega
      have a3 : (e - last).toNat = 0 := by omega
      rw [a1, a2, a3, Nat.shiftLeft_zero, Nat.shiftLeft_zero]
      exact cut_two neg _ hm
  rw [key]

theorem nearest_pow (f : Format) (neg : Bool) {m : Nat} (e : Int) (k : Nat) : f.nearest neg (m * 2 ^ k) (e - k) = f.nearest neg m e := by
  by_cases hm : m = 0
  · subst hm
    rw [Nat.zero_mul]
    unfold Format.nearest
    rw [if_pos rfl, if_pos rfl]
  · induction k with
    | zero => simp
    | succ k ih =>
      have h1 : m * 2 ^ (k + 1) = 2 * (m * 2 ^ k) := by rw [Nat.pow_succ, ← Nat.mul_assoc, Nat.mul_comm]
      have h2 : e - ((k + 1 : Nat) : Int) = (e - (k : Int)) - 1 := by omega
      rw [h1, h2, nearest_two f neg _ (Nat.mul_ne_zero hm (by have := Nat.two_pow_pos k; omega)), ih]

theorem half_eq (d : Nat) : R.bin .quo .f32 d 1073741824 = R.bin .mul .f32 1056964608 d := by
  show (FloatKind.f32.format.div d 1073741824).getD (nanOf .f32) = (FloatKind.f32.format.mul 1056964608 d).getD (nanOf .f32)
  unfold Format.div Format.mul
  have r2 : FloatKind.f32.format.read 1073741824 = .number false 8388608 (-22) := by decide
  have rh : FloatKind.f32.format.read 1056964608 = .number false 8388608 (-24) := by decide
  rw [r2, rh]
  cases hd : FloatKind.f32.format.read d with
  | nan s t => rfl
  | infinity s => cases s <;> rfl
  | number s m i =>
    obtain ⟨hm, _, _⟩ := read32_e d hd
    have hl : m.log2 ≤ 23 := by
      by_cases h0 : m = 0
      · subst h0; decide
      · have := (Nat.log2_lt h0).2 hm; omega
    have e8 : Nat.log2 8388608 = 23 := by decide
    have ef : FloatKind.f32.format.fractionBits = 23 := rfl
    simp only [Datum.quotient, Datum.product, e8, ef, if_neg (show ¬ (8388608 : Nat) = 0 by decide), Option.map_some, Option.getD_some, Format.write, Bool.xor_false, Bool.false_xor]
    obtain ⟨c, hc⟩ : ∃ c, 23 + 2 + 23 - m.log2 = c + 23 := ⟨25 - m.log2, by omega⟩
    rw [hc]
    have h1 : m <<< (c + 23) = 8388608 * (m * 2 ^ c) := by
      rw [Nat.shiftLeft_eq, Nat.pow_add]
      have : (2 : Nat) ^ 23 = 8388608 := by decide
      rw [this, Nat.mul_comm 8388608, Nat.mul_assoc]
    rw [h1, Nat.mul_div_cancel_left _ (by decide), Nat.mul_mod_right]
    have h2 : 2 * (m * 2 ^ c) + (0 != 0 : Bool).toNat = m * 2 ^ (c + 1) := by
      rw [Nat.pow_succ]
      show 2 * (m * 2 ^ c) + 0 = _
      rw [Nat.add_zero, Nat.mul_comm 2, Nat.mul_assoc]
    rw [h2]
    have h3 : i - -22 - ((c + 23 : Nat) : Int) - 1 = (i - 1) - ((c + 1 : Nat) : Int) := by omega
    have h4 : -24 + i = (i - 1) - ((23 : Nat) : Int) := by omega
    have h5 : 8388608 * m = m * 2 ^ 23 := by rw [Nat.mul_comm]
    rw [h3, h4, h5, nearest_pow, nearest_pow]

/-! ### a difference against a number of few digits -/
theorem sub_mg {k : FloatKind} {a b : Nat} (ha : Nm k a) (hb : Nm k b) {mc : Nat} {ec : Int} (hm : mc ≤ 2 * k.format.binade) (he : loP k ≤ ec) (ht : mg mc ec < topOf k.format) (h0 : 0 ≤ fv k a - fv k b) (h : fv k a - fv k b ≤ mg mc ec) :
    Nm k (R.bin .sub k a b) ∧ 0 ≤ fv k (R.bin .sub k a b) ∧ fv k (R.bin .sub k a b) ≤ mg mc ec := by
  have hrd := rd_sub ha hb
  obtain ⟨s, m, i, ra⟩ := ha
  obtain ⟨t, n, j, rb⟩ := hb
  obtain ⟨s', m', e', q1, q2⟩ := sum_num s m i (!t) n j
  have hform : R.bin .sub k a b = k.format.nearest s' m' e' := by
    show (k.format.sub a b).getD (nanOf k) = _
    unfold Format.sub
    rw [ra, rb]
    show (((Datum.number s m i).sum (.number (!t) n j)).map k.format.write).getD _ = _
    rw [q1]; rfl
  have hv : vd (.number s' m' e') = fv k a - fv k b := by
    rw [q2]
    unfold fv
    rw [ra, rb]
    cases t
    · rw [Bool.not_false, vd_true, vd_false (m := n)]; grind
    · rw [Bool.not_true, vd_false (m := n), vd_true]; grind
  have hg := mg_nonneg m' e'
  have hle : mg m' e' ≤ mg mc ec := by
    cases s'
    · rw [vd_false] at hv; rw [hv]; exact h
    · rw [vd_true] at hv; have := mg_nonneg mc ec; grind
  obtain ⟨m2, e2, r2, h2⟩ := nearest_le k.format (exp3 k) s' m' e' mc ec hm (by rw [least_eq]; exact he) ht hle
  rw [← hform] at r2
  have hN : Nm k (R.bin .sub k a b) := ⟨_, _, _, r2⟩
  refine ⟨hN, hrd.pos h0 hN, ?_⟩
  have hg2 := mg_nonneg m2 e2
  unfold fv
  rw [r2]
  cases s'
  · rw [vd_false]; exact h2
  · rw [vd_true]; grind
end Go.Dv

/- Rounding keeps the order against every word; the cosine is not small between -0.24 and 0.24; an east that is wrapped is one. -/
namespace Go.Dv
open Go.Cv
open Ieee

/-- the word n is v, rounded: no word lies between -/
structure Rc (k : FloatKind) (v : Rat) (n : Nat) : Prop where
  le : ∀ c, Nm k c → Nm k n → v ≤ fv k c → fv k n ≤ fv k c
  ge : ∀ c, Nm k c → Nm k n → fv k c ≤ v → fv k c ≤ fv k n

/-! ### the cosine from below -/
theorem fv_q64 : fv .f64 4598175219545276416 = 1 / 4 := by decide +kernel

end Go.Dv

/- An east that is wrapped lies between -0.5 and 0.5. -/
namespace Go.Dv
open Go.Cv
open Ieee

end Go.Dv
