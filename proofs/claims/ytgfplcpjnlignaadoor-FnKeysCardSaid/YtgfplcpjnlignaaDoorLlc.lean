/- Floats that hold small integers: sums, products and exact quotients of them are exact. -/
import Derived.Test.YtgfplcpjnlignaaDoorGz

set_option linter.unusedSimpArgs false
set_option linter.unusedVariables false
namespace Go.Dv
open Go.Cv
open Ieee

/-- the word holds an integer -/
def Wh (k : FloatKind) (w : Nat) (i : Int) : Prop := Nm k w ∧ fv k w = (i : Rat)
/-- an integer that every word of the kind tells -/
def Sml (k : FloatKind) (i : Int) : Prop := i.natAbs ≤ 2 * k.format.binade

theorem sml32 {i : Int} (h : i.natAbs ≤ 16777216) : Sml .f32 i := by unfold Sml; rw [B32]; exact h
theorem sml64 {i : Int} (h : i.natAbs ≤ 9007199254740992) : Sml .f64 i := by unfold Sml; rw [B64]; exact h

theorem abs_cast (i : Int) : ((i : Rat) = (i.natAbs : Rat) ∧ 0 ≤ i) ∨ ((i : Rat) = -(i.natAbs : Rat) ∧ i ≤ 0) := by
  rcases Int.natAbs_eq i with h | h
  · left
    refine ⟨?_, by omega⟩
    generalize i.natAbs = n at h
    subst h; exact Rat.intCast_natCast n
  · right
    refine ⟨?_, by omega⟩
    generalize i.natAbs = n at h
    subst h; rw [Rat.intCast_neg, Rat.intCast_natCast]

theorem vd_mag {s : Bool} {m : Nat} {e : Int} {i : Int} (h : vd (.number s m e) = (i : Rat)) : mg m e = mg i.natAbs 0 := by
  have hg := mg_nonneg m e
  have hn := nat_nonneg i.natAbs
  rw [mg_nat0]
  rcases abs_cast i with ⟨h1, _⟩ | ⟨h1, _⟩ <;> rw [h1] at h <;> cases s <;> simp only [vd_true, vd_false] at h <;> grind

theorem nearest_wh (k : FloatKind) (s : Bool) (m : Nat) (e : Int) (i : Int) (h : vd (.number s m e) = (i : Rat)) (hi : Sml k i) : Wh k (k.format.nearest s m e) i := by
  have hm := vd_mag h
  obtain ⟨m', e', hr, hv⟩ := nearest_exact k.format (exp3 k) s m e i.natAbs 0 hi (by rw [least_eq]; cases k <;> decide) (top_of hi (by cases k <;> decide)) hm
  refine ⟨⟨_, _, _, hr⟩, ?_⟩
  unfold fv; rw [hr, ← h]
  cases s <;> simp only [vd_true, vd_false, hv, hm]

theorem ofi_form' (k : FloatKind) (i : Int) : R.ofi k i = k.format.nearest (decide (i < 0)) i.natAbs 0 := by
  show cn k (floatOfInt k i) = _
  have e : floatOfInt k i = k.format.write (.number (decide (i < 0)) i.natAbs 0) := rfl
  rw [e]
  exact cn_of_not (write_not_nan _ _ rfl)
theorem wh_ofi {k : FloatKind} {i : Int} (hi : Sml k i) : Wh k (R.ofi k i) i := by
  rw [ofi_form']
  refine nearest_wh k _ _ _ _ ?_ hi
  rcases abs_cast i with ⟨h1, h2⟩ | ⟨h1, h2⟩
  · have : decide (i < 0) = false := decide_eq_false (by omega)
    rw [this, vd_false, mg_nat0, h1]
  · by_cases h0 : i = 0
    · subst h0
      have : decide ((0 : Int) < 0) = false := by decide
      rw [this, vd_false]
      show mg 0 0 = ((0 : Int) : Rat)
      rw [mg_zero]; rfl
    · have : decide (i < 0) = true := decide_eq_true (by omega)
      rw [this, vd_true, mg_nat0, h1]

/-! ### the other way around -/
/-! ### whole parts -/
/-! ### quotients that come out even -/
end Go.Dv
