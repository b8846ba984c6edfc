/- Fz, Gk, Gw, Gx: merged by merge.py. -/
/- Floats that hold small integers: sums, products and exact quotients of them are exact. -/
/- Words between words; what a place is. -/
import Derived.Test.YtgfplcpjnlignaaDoorYa
import Derived.Test.YtgfplcpjnlignaaDoorZke

/- Words that say the same number are the same; the size of a number. -/
namespace Go.Dv
open Go.Cv
open Ieee

end Go.Dv

/- Bounds of both kinds of floats; what is the same number in other digits; halves. -/
namespace Go.Dv
open Go.Cv
open Ieee

/-- a number no greater than a power of two -/
def Bk (k : FloatKind) (a : Nat) (E : Int) : Prop := Nm k a ∧ fv k a ≤ p2 E ∧ -(fv k a) ≤ p2 E

theorem bk_wid {a : Nat} {E : Int} (h : Bk .f32 a E) : Bd (R.wid a) E := by
  obtain ⟨h1, h2⟩ := wid_nm h.1
  exact ⟨h1, by rw [h2]; exact h.2.1, by rw [h2]; exact h.2.2⟩

/-! ### products in both orders -/
/-! ### the same number in other digits -/
/-! ### a difference against a number of few digits -/
end Go.Dv

/- Rounding keeps the order against every word; the cosine is not small between -0.24 and 0.24; an east that is wrapped is one. -/
namespace Go.Dv
open Go.Cv
open Ieee

/-- the word n is v, rounded: no word lies between -/
structure Rc (k : FloatKind) (v : Rat) (n : Nat) : Prop where
  le : ∀ c, Nm k c → Nm k n → v ≤ fv k c → fv k n ≤ fv k c
  ge : ∀ c, Nm k c → Nm k n → fv k c ≤ v → fv k c ≤ fv k n

/-! ### the cosine from below -/
theorem p2_m1 : p2 (-1) = 1 / 2 := by decide +kernel
theorem fv_q32 : fv .f32 1048576000 = 1 / 4 := by decide +kernel
theorem nm_q32 : Nm .f32 1048576000 := ⟨_, _, _, rfl⟩
end Go.Dv

/- An east that is wrapped lies between -0.5 and 0.5. -/
namespace Go.Dv
open Go.Cv
open Ieee

theorem cut_down_pos (n drop : Nat) : Toward.down.cut false n drop = n / 2 ^ drop := by
  rw [← cut_zero_eq false n drop]
  unfold Toward.cut
  simp only [Bool.false_and]
theorem le_cut_down (n drop : Nat) : n ≤ Toward.down.cut true n drop * 2 ^ drop := by
  unfold Toward.cut
  simp only [Nat.one_shiftLeft, Bool.true_and]
  have hg : 2 ^ min drop (n.log2 + 2) ≤ 2 ^ drop := Nat.pow_le_pow_right (by decide) (Nat.min_le_left _ _)
  have hp : 0 < 2 ^ min drop (n.log2 + 2) := Nat.two_pow_pos _
  generalize 2 ^ min drop (n.log2 + 2) = g at *
  have h1 := Nat.div_add_mod n g
  have h2 := Nat.mod_lt n hp
  have key : n ≤ (n / g + (n % g != 0).toNat) * g := by
    by_cases h0 : n % g = 0
    · rw [h0] at h1 ⊢
      rw [Nat.mul_comm] at h1
      show n ≤ (n / g + 0) * g
      rw [Nat.add_zero]; omega
    · have : (n % g != 0) = true := by simp [h0]
      rw [this]
      show n ≤ (n / g + 1) * g
      rw [Nat.add_mul, Nat.mul_comm (n / g)]
      omega
  exact Nat.le_trans key (Nat.mul_le_mul_left _ hg)

theorem nm_h32 : Nm .f32 1056964608 := ⟨_, _, _, rfl⟩
theorem fv_h32 : fv .f32 1056964608 = 1 / 2 := by decide +kernel
theorem nm_nh32 : Nm .f32 3204448256 := ⟨_, _, _, rfl⟩
theorem fv_nh32 : fv .f32 3204448256 = -(1 / 2) := by decide +kernel
/-- between -0.5 and 0.5 -/
def InH (x : Nat) : Prop := Nm .f32 x ∧ -(1 / 2) ≤ fv .f32 x ∧ fv .f32 x < 1 / 2

end Go.Dv


set_option linter.unusedSimpArgs false
set_option linter.unusedVariables false
namespace Go.Dv
open Go.Cv
open Ieee

/-- the word holds an integer -/
def Wh (k : FloatKind) (w : Nat) (i : Int) : Prop := Nm k w ∧ fv k w = (i : Rat)
/-- an integer that every word of the kind tells -/
def Sml (k : FloatKind) (i : Int) : Prop := i.natAbs ≤ 2 * k.format.binade

theorem sml32 {i : Int} (h : i.natAbs ≤ 16777216) : Sml .f32 i := by unfold Sml; rw [B32]; exact h
theorem sml64 {i : Int} (h : i.natAbs ≤ 9007199254740992) : Sml .f64 i := by unfold Sml; rw [B64]; exact h

theorem abs_cast (i : Int) : ((i : Rat) = (i.natAbs : Rat) ∧ 0 ≤ i) ∨ ((i : Rat) = -(i.natAbs : Rat) ∧ i ≤ 0) := by
  rcases Int.natAbs_eq i with h | h
  · left
    refine ⟨?_, by omega⟩
    generalize i.natAbs = n at h
    subst h; exact Rat.intCast_natCast n
  · right
    refine ⟨?_, by omega⟩
    generalize i.natAbs = n at h
    subst h; rw [Rat.intCast_neg, Rat.intCast_natCast]

theorem vd_mag {s : Bool} {m : Nat} {e : Int} {i : Int} (h : vd (.number s m e) = (i : Rat)) : mg m e = mg i.natAbs 0 := by
  have hg := mg_nonneg m e
  have hn := nat_nonneg i.natAbs
  rw [mg_nat0]
  rcases abs_cast i with ⟨h1, _⟩ | ⟨h1, _⟩ <;> rw [h1] at h <;> cases s <;> simp only [vd_true, vd_false] at h <;> grind

theorem nearest_wh (k : FloatKind) (s : Bool) (m : Nat) (e : Int) (i : Int) (h : vd (.number s m e) = (i : Rat)) (hi : Sml k i) : Wh k (k.format.nearest s m e) i := by
  have hm := vd_mag h
  obtain ⟨m', e', hr, hv⟩ := nearest_exact k.format (exp3 k) s m e i.natAbs 0 hi (by rw [least_eq]; cases k <;> decide) (top_of hi (by cases k <;> decide)) hm
  refine ⟨⟨_, _, _, hr⟩, ?_⟩
  unfold fv; rw [hr, ← h]
  cases s <;> simp only [vd_true, vd_false, hv, hm]

theorem ofi_form' (k : FloatKind) (i : Int) : R.ofi k i = k.format.nearest (decide (i < 0)) i.natAbs 0 := by
  show cn k (floatOfInt k i) = _
  have e : floatOfInt k i = k.format.write (.number (decide (i < 0)) i.natAbs 0) := rfl
  rw [e]
  exact cn_of_not (write_not_nan _ _ rfl)
theorem wh_ofi {k : FloatKind} {i : Int} (hi : Sml k i) : Wh k (R.ofi k i) i := by
  rw [ofi_form']
  refine nearest_wh k _ _ _ _ ?_ hi
  rcases abs_cast i with ⟨h1, h2⟩ | ⟨h1, h2⟩
  · have : decide (i < 0) = false := decide_eq_false (by omega)
    rw [this, vd_false, mg_nat0, h1]
  · by_cases h0 : i = 0
    · subst h0
      have : decide ((0 : Int) < 0) = false := by decide
      rw [this, vd_false]
      show mg 0 0 = ((0 : Int) : Rat)
      rw [mg_zero]; rfl
    · have : decide (i < 0) = true := decide_eq_true (by omega)
      rw [this, vd_true, mg_nat0, h1]

/-! ### the other way around -/
/-! ### whole parts -/
/-! ### quotients that come out even -/
end Go.Dv


set_option linter.unusedSimpArgs false
namespace Go.Dv
open Go.Cv
open Ieee

theorem nan_word {a : Nat} (h : isNan .f32 a = true) : ∃ s t, FloatKind.f32.format.read a = .nan s t := by
  unfold isNan at h
  cases hr : FloatKind.f32.format.read a with
  | nan s t => exact ⟨s, t, rfl⟩
  | number s m e => rw [hr] at h; cases h
  | infinity s => rw [hr] at h; cases h
/-- between two words lie numbers alone -/
theorem between_nm {a c d : Nat} (hc : Nm .f32 c) (hd : Nm .f32 d) (h1 : R.cmp .geq .f32 a c = true) (h2 : R.cmp .leq .f32 a d = true) : Nm .f32 a ∧ fv .f32 c ≤ fv .f32 a ∧ fv .f32 a ≤ fv .f32 d := by
  have hN : Nm .f32 a := by
    rcases nm_dec .f32 a with h | h
    · exact h
    · exfalso
      obtain ⟨s', m', e', hrc⟩ := hc
      obtain ⟨s2, m2, e2, hrd⟩ := hd
      rcases not_nm h with h | ⟨s, h⟩
      · obtain ⟨s, t, hr⟩ := nan_word h
        have h1 : fge .f32 a c = true := h1
        unfold fge Format.order at h1
        rw [hr] at h1; cases h1
      · cases s
        · have h2 : fle .f32 a d = true := h2
          unfold fle Format.order at h2
          rw [h, hrd] at h2; cases h2
        · have h1 : fge .f32 a c = true := h1
          unfold fge Format.order at h1
          rw [h, hrc] at h1; cases h1
  refine ⟨hN, ?_, ?_⟩
  · rw [geq_nm hN hc] at h1; exact of_decide_eq_true h1
  · rw [leq_nm hN hd] at h2; exact of_decide_eq_true h2

theorem below_nm {a c d : Nat} (hc : Nm .f32 c) (hd : Nm .f32 d) (h1 : R.cmp .geq .f32 a c = true) (h2 : R.cmp .lss .f32 a d = true) : Nm .f32 a ∧ fv .f32 c ≤ fv .f32 a ∧ fv .f32 a < fv .f32 d := by
  have hN : Nm .f32 a := by
    rcases nm_dec .f32 a with h | h
    · exact h
    · exfalso
      obtain ⟨s', m', e', hrc⟩ := hc
      obtain ⟨s2, m2, e2, hrd⟩ := hd
      rcases not_nm h with h | ⟨s, h⟩
      · obtain ⟨s, t, hr⟩ := nan_word h
        have h1 : fge .f32 a c = true := h1
        unfold fge Format.order at h1
        rw [hr] at h1; cases h1
      · cases s
        · have h2 : flt .f32 a d = true := h2
          unfold flt Format.order at h2
          rw [h, hrd] at h2; cases h2
        · have h1 : fge .f32 a c = true := h1
          unfold fge Format.order at h1
          rw [h, hrc] at h1; cases h1
  refine ⟨hN, ?_, ?_⟩
  · rw [geq_nm hN hc] at h1; exact of_decide_eq_true h1
  · rw [lss_nm hN hd] at h2; exact of_decide_eq_true h2

theorem nm_nq32 : Nm .f32 3196059648 := ⟨_, _, _, rfl⟩
theorem fv_nq32 : fv .f32 3196059648 = -(1 / 4) := by decide +kernel
theorem place_in {n e : Nat} (h : p_impl_ValidPlace R n e = true) : Nm .f32 n ∧ -(1 / 4) ≤ fv .f32 n ∧ fv .f32 n ≤ 1 / 4 ∧ InH e := by
  unfold p_impl_ValidPlace p_impl_inside at h
  cases h1 : R.cmp .geq .f32 n 3196059648
  · rw [h1] at h; cases h
  cases h2 : R.cmp .leq .f32 n 1048576000
  · rw [h1, h2] at h; cases h
  cases h3 : R.cmp .geq .f32 e 3204448256
  · rw [h1, h2, h3] at h; cases h
  cases h4 : R.cmp .lss .f32 e 1056964608
  · rw [h1, h2, h3, h4] at h; cases h
  obtain ⟨a1, a2, a3⟩ := between_nm nm_nq32 nm_q32 h1 h2
  obtain ⟨b1, b2, b3⟩ := below_nm nm_nh32 nm_h32 h3 h4
  rw [fv_nq32] at a2; rw [fv_q32] at a3; rw [fv_nh32] at b2; rw [fv_h32] at b3
  exact ⟨a1, a2, a3, b1, b2, b3⟩

end Go.Dv
