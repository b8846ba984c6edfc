/- Floats that hold small integers: sums, products and exact quotients of them are exact. -/
/- Words between words; what a place is. -/
/- The plain law of areas and lengths of lists of places. -/
/- The plain law of texts of numbers and places. -/
/- LogNumber of both texts, for every argument. -/
/- Printed by gen2.py. -/
/- The plain law of stored tracks: numbers in as many bytes as they take; check numbers; texts of bytes. -/
/- Lv, La: merged by merge.py. -/
/- Steps of places, exactly: a place of steps is a number of 2^-24, and its steps are found again. -/
import Derived.Test.YtggaemodkekeeaaNc
import Derived.Test.YtggaemodkekeeaaGz
import Derived.Test.YtggaemodkekeeaaYm
import Derived.Test.YtggaemodkekeeaaDs
import Derived.Test.YtggaemodkekeeaaFz

set_option linter.unusedSimpArgs false
set_option linter.unusedVariables false
namespace Go.Dv
open Go.Cv
open Ieee

/-- the word holds an integer -/
def Wh (k : FloatKind) (w : Nat) (i : Int) : Prop := Nm k w ∧ fv k w = (i : Rat)
/-- an integer that every word of the kind tells -/
def Sml (k : FloatKind) (i : Int) : Prop := i.natAbs ≤ 2 * k.format.binade

theorem sml32 {i : Int} (h : i.natAbs ≤ 16777216) : Sml .f32 i := by unfold Sml; rw [B32]; exact h
theorem sml64 {i : Int} (h : i.natAbs ≤ 9007199254740992) : Sml .f64 i := by unfold Sml; rw [B64]; exact h

theorem abs_cast (i : Int) : ((i : Rat) = (i.natAbs : Rat) ∧ 0 ≤ i) ∨ ((i : Rat) = -(i.natAbs : Rat) ∧ i ≤ 0) := by
  rcases Int.natAbs_eq i with h | h
  · left
    refine ⟨?_, by omega⟩
    generalize i.natAbs = n at h
    subst h; exact Rat.intCast_natCast n
  · right
    refine ⟨?_, by omega⟩
    generalize i.natAbs = n at h
    subst h; rw [Rat.intCast_neg, Rat.intCast_natCast]

theorem vd_mag {s : Bool} {m : Nat} {e : Int} {i : Int} (h : vd (.number s m e) = (i : Rat)) : mg m e = mg i.natAbs 0 := by
  have hg := mg_nonneg m e
  have hn := nat_nonneg i.natAbs
  rw [mg_nat0]
  rcases abs_cast i with ⟨h1, _⟩ | ⟨h1, _⟩ <;> rw [h1] at h <;> cases s <;> simp only [vd_true, vd_false] at h <;> grind

theorem nearest_wh (k : FloatKind) (s : Bool) (m : Nat) (e : Int) (i : Int) (h : vd (.number s m e) = (i : Rat)) (hi : Sml k i) : Wh k (k.format.nearest s m e) i := by
  have hm := vd_mag h
  obtain ⟨m', e', hr, hv⟩ := nearest_exact k.format (exp3 k) s m e i.natAbs 0 hi (by rw [least_eq]; cases k <;> decide) (top_of hi (by cases k <;> decide)) hm
  refine ⟨⟨_, _, _, hr⟩, ?_⟩
  unfold fv; rw [hr, ← h]
  cases s <;> simp only [vd_true, vd_false, hv, hm]

/-! ### the other way around -/
/-! ### whole parts -/
theorem wh_toi32 {a : Nat} {i : Int} (h : Wh .f32 a i) (hi : i.natAbs ≤ 1000000000) : R.toiOk .f32 a .i64 = true ∧ R.toi .f32 a .i64 = i := by
  obtain ⟨⟨s, m, e, hr⟩, hv⟩ := h
  unfold fv at hv; rw [hr] at hv
  have hm := vd_mag hv
  have hw : wholeOf m e = i.natAbs := by
    have h1 := (units_le m e i.natAbs).1 (by rw [hm]; exact Rat.le_refl)
    have h2 := (le_units m e i.natAbs).1 (by rw [hm]; exact Rat.le_refl)
    unfold wholeOf
    rw [Nat.le_antisymm h1 h2]
    exact Nat.mul_div_cancel _ (Nat.two_pow_pos _)
  have h0 : i.natAbs <<< 0 = i.natAbs := by simp
  have hsg : signed s (wholeOf m e) 0 = i := by
    unfold signed
    rw [hw, h0]
    rcases abs_cast i with ⟨h1, h2⟩ | ⟨h1, h2⟩
    · by_cases hz : i = 0
      · subst hz; cases s <;> rfl
      · cases s
        · show ((i.natAbs : Nat) : Int) = i; omega
        · exfalso
          rw [vd_true, hm, mg_nat0, h1] at hv
          have : 0 < (i.natAbs : Rat) := Rat.natCast_pos.2 (by omega)
          grind
    · by_cases hz : i = 0
      · subst hz; cases s <;> rfl
      · cases s
        · exfalso
          rw [vd_false, hm, mg_nat0, h1] at hv
          have : 0 < (i.natAbs : Rat) := Rat.natCast_pos.2 (by omega)
          grind
        · show -((i.natAbs : Nat) : Int) = i; omega
  have h1 : ftoi .f32 a .i64 = some i := by
    unfold ftoi floatToIntVal
    have h2 : (FloatKind.f32.decode a).toInt .zero = some (signed s (wholeOf m e) 0) := by
      rw [show FloatKind.f32.decode a = FloatKind.f32.format.read a from rfl, hr]
      unfold Datum.toInt Datum.integral
      simp only [cut_zero_eq]
      rfl
    rw [h2, hsg]
    have h3 : IntKind.i64.min ≤ i ∧ i ≤ IntKind.i64.max := by
      have a1 : IntKind.i64.min = -9223372036854775808 := by decide
      have a2 : IntKind.i64.max = 9223372036854775807 := by decide
      rw [a1, a2]; omega
    simp only
    rw [if_pos h3]
  exact ⟨by show (ftoi .f32 a .i64).isSome = true; rw [h1]; rfl, by show (ftoi .f32 a .i64).getD 0 = i; rw [h1]; rfl⟩

/-! ### quotients that come out even -/
end Go.Dv


set_option linter.unusedSimpArgs false
namespace Go.Dv
open Go.Cv
open Ieee

theorem nan_word {a : Nat} (h : isNan .f32 a = true) : ∃ s t, FloatKind.f32.format.read a = .nan s t := by
  unfold isNan at h
  cases hr : FloatKind.f32.format.read a with
  | nan s t => exact ⟨s, t, rfl⟩
  | number s m e => rw [hr] at h; cases h
  | infinity s => rw [hr] at h; cases h
/-- between two words lie numbers alone -/
theorem between_nm {a c d : Nat} (hc : Nm .f32 c) (hd : Nm .f32 d) (h1 : R.cmp .geq .f32 a c = true) (h2 : R.cmp .leq .f32 a d = true) : Nm .f32 a ∧ fv .f32 c ≤ fv .f32 a ∧ fv .f32 a ≤ fv .f32 d := by
  have hN : Nm .f32 a := by
    rcases nm_dec .f32 a with h | h
    · exact h
    · exfalso
      obtain ⟨s', m', e', hrc⟩ := hc
      obtain ⟨s2, m2, e2, hrd⟩ := hd
      rcases not_nm h with h | ⟨s, h⟩
      · obtain ⟨s, t, hr⟩ := nan_word h
        have h1 : fge .f32 a c = true := h1
        unfold fge Format.order at h1
        rw [hr] at h1; cases h1
      · cases s
        · have h2 : fle .f32 a d = true := h2
          unfold fle Format.order at h2
          rw [h, hrd] at h2; cases h2
        · have h1 : fge .f32 a c = true := h1
          unfold fge Format.order at h1
          rw [h, hrc] at h1; cases h1
  refine ⟨hN, ?_, ?_⟩
  · rw [geq_nm hN hc] at h1; exact of_decide_eq_true h1
  · rw [leq_nm hN hd] at h2; exact of_decide_eq_true h2

theorem below_nm {a c d : Nat} (hc : Nm .f32 c) (hd : Nm .f32 d) (h1 : R.cmp .geq .f32 a c = true) (h2 : R.cmp .lss .f32 a d = true) : Nm .f32 a ∧ fv .f32 c ≤ fv .f32 a ∧ fv .f32 a < fv .f32 d := by
  have hN : Nm .f32 a := by
    rcases nm_dec .f32 a with h | h
    · exact h
    · exfalso
      obtain ⟨s', m', e', hrc⟩ := hc
      obtain ⟨s2, m2, e2, hrd⟩ := hd
      rcases not_nm h with h | ⟨s, h⟩
      · obtain ⟨s, t, hr⟩ := nan_word h
        have h1 : fge .f32 a c = true := h1
        unfold fge Format.order at h1
        rw [hr] at h1; cases h1
      · cases s
        · have h2 : flt .f32 a d = true := h2
          unfold flt Format.order at h2
          rw [h, hrd] at h2; cases h2
        · have h1 : fge .f32 a c = true := h1
          unfold fge Format.order at h1
          rw [h, hrc] at h1; cases h1
  refine ⟨hN, ?_, ?_⟩
  · rw [geq_nm hN hc] at h1; exact of_decide_eq_true h1
  · rw [lss_nm hN hd] at h2; exact of_decide_eq_true h2

theorem nm_nq32 : Nm .f32 3196059648 := ⟨_, _, _, rfl⟩
theorem fv_nq32 : fv .f32 3196059648 = -(1 / 4) := by decide +kernel
theorem p2_m2 : p2 (-2) = 1 / 4 := by decide +kernel

theorem place_in {n e : Nat} (h : p_impl_ValidPlace R n e = true) : Nm .f32 n ∧ -(1 / 4) ≤ fv .f32 n ∧ fv .f32 n ≤ 1 / 4 ∧ InH e := by
  unfold p_impl_ValidPlace p_impl_inside at h
  cases h1 : R.cmp .geq .f32 n 3196059648
  · rw [h1] at h; cases h
  cases h2 : R.cmp .leq .f32 n 1048576000
  · rw [h1, h2] at h; cases h
  cases h3 : R.cmp .geq .f32 e 3204448256
  · rw [h1, h2, h3] at h; cases h
  cases h4 : R.cmp .lss .f32 e 1056964608
  · rw [h1, h2, h3, h4] at h; cases h
  obtain ⟨a1, a2, a3⟩ := between_nm nm_nq32 nm_q32 h1 h2
  obtain ⟨b1, b2, b3⟩ := below_nm nm_nh32 nm_h32 h3 h4
  rw [fv_nq32] at a2; rw [fv_q32] at a3; rw [fv_nh32] at b2; rw [fv_h32] at b3
  exact ⟨a1, a2, a3, b1, b2, b3⟩

end Go.Dv


namespace Go.Dv
open Go.Cv

theorem eqPlaceS_refl (l : List (Nat × Nat)) : p_laws_eqPlaceS R l l = true := by
  unfold p_laws_eqPlaceS
  rw [decide_eq_true rfl, Bool.true_and, List.all_eq_true]
  exact fun i _ => eqPlace_refl _ _

/-! ### areas -/
/-! ### lengths -/
end Go.Dv


set_option linter.unusedSimpArgs false
namespace Go.Dv
open Go.Cv

/-! ### words -/
/-- a number's bits -/
def bw (x : Nat) : Nat := bif R.cmp .eql .f32 x x then x else 2143289344
/-- a number's text -/
def tx (x : Nat) : ByteArray := p_bytes (hex8 (bw x))
theorem hd0 : hd 0 = 48 := by decide
/-! ### joined texts -/
/-! ### texts of places -/
end Go.Dv


namespace Go.Dv
open Go.Cv
open Ieee

theorem wid_infw {a : Nat} {s : Bool} (hr : FloatKind.f32.format.read a = .infinity s) : R.wid a = FloatKind.f64.format.write (.infinity s) := by
  have hn : isNan .f32 a = false := by unfold isNan; rw [hr]; rfl
  show (fconv .f32 a .f64).getD 0 = _
  unfold fconv floatToFloatBits FloatKind.decode FloatKind.encode
  rw [hn, hr]
  rfl

/-! ### courses -/
end Go.Dv


set_option linter.unusedVariables false
set_option linter.unusedSimpArgs false

-- GENERATED BELOW (gen.py)
namespace Go.Dv
open Go.Cv
noncomputable section
def F_spec_l00In (r : Bool) : AS.Ty (.cons (.one .bool) .nil) × List CS := ((r, ()), [])
def p_spec_l00In (M : FOps) (a0 : Int) (a1 : Int) (a2 : Int) : Bool :=
  (bif decide (a0 ≥ a1) then decide (a0 ≤ a2) else false)
def S_spec_l00In (M : FOps) : FSpec := mkSpec (.cons (.one (.int .i64)) (.cons (.one (.int .i64)) (.cons (.one (.int .i64)) .nil))) (.cons (.one .bool) .nil) (fun _ => true) (fun x => F_spec_l00In (p_spec_l00In M x.1 x.2.1 x.2.2.1))

end
end Go.Dv


set_option linter.unusedSimpArgs false
namespace Go.Dv
open Go.Cv

/-! ### numbers in bytes -/
theorem wrapu {i : Int} (h0 : 0 ≤ i) (h1 : i < 9223372036854775808) : IntKind.u64.wrap i = i := by rw [IntKind.wrap_u64]; omega
theorem ble_of {a b : Nat} (h : a ≤ b) : Nat.ble a b = true := Nat.ble_eq_true_of_le h

/-! ### places in bytes -/
def small (x : Int) : Prop := -16777216 ≤ x ∧ x ≤ 16777216
/-! ### check numbers -/
/-! ### texts of bytes -/
end Go.Dv


/- Lf, Lv: merged by merge.py. -/
/- The phasors of both texts are the same. -/
namespace Go.Dv
open Go.Cv
open Ieee

/-- what is told of a fraction and its quarter -/
structure Quarter (f : Nat) : Prop where
  S : p_spec_l01SineWide R f = p_impl_sine R f
  C : p_spec_l01SineWide R (R.bin .sub .f64 4598175219545276416 f) = p_impl_sine R (R.bin .sub .f64 4598175219545276416 f)
  s : R.narOk (p_impl_sine R f) = true
  c : R.narOk (p_impl_sine R (R.bin .sub .f64 4598175219545276416 f)) = true
  s' : R.narOk (R.bin .sub .f64 0 (p_impl_sine R f)) = true
  c' : R.narOk (R.bin .sub .f64 0 (p_impl_sine R (R.bin .sub .f64 4598175219545276416 f))) = true
  bS : Bd (p_impl_sine R f) 43
  bC : Bd (p_impl_sine R (R.bin .sub .f64 4598175219545276416 f)) 43
  n : Nm .f64 f
  lo : 0 ≤ fv .f64 f
  hi : fv .f64 f < 1 / 4

end Go.Dv

/- The points of both texts are the same. -/
namespace Go.Dv
open Go.Cv
open Ieee

/-! ### what is no number stays none -/
end Go.Dv

/- Mixed points, steps and the scales of areas: both texts are the same. -/
namespace Go.Dv
open Go.Cv
open Ieee

/-! ### mixtures -/
/-! ### steps -/
end Go.Dv


set_option linter.unusedSimpArgs false
set_option linter.unusedVariables false
namespace Go.Dv
open Go.Cv Ieee

/-- whole parts of wide numbers -/
theorem wh_toi64 {a : Nat} {i : Int} (h : Wh .f64 a i) (hi : i.natAbs ≤ 1000000000) : R.toiOk .f64 a .i64 = true ∧ R.toi .f64 a .i64 = i := by
  obtain ⟨⟨s, m, e, hr⟩, hv⟩ := h
  unfold fv at hv; rw [hr] at hv
  have hm := vd_mag hv
  have hw : wholeOf m e = i.natAbs := by
    have h1 := (units_le m e i.natAbs).1 (by rw [hm]; exact Rat.le_refl)
    have h2 := (le_units m e i.natAbs).1 (by rw [hm]; exact Rat.le_refl)
    unfold wholeOf
    rw [Nat.le_antisymm h1 h2]
    exact Nat.mul_div_cancel _ (Nat.two_pow_pos _)
  have h0 : i.natAbs <<< 0 = i.natAbs := by simp
  have hsg : signed s (wholeOf m e) 0 = i := by
    unfold signed
    rw [hw, h0]
    rcases abs_cast i with ⟨h1, h2⟩ | ⟨h1, h2⟩
    · by_cases hz : i = 0
      · subst hz; cases s <;> rfl
      · cases s
        · show ((i.natAbs : Nat) : Int) = i; omega
        · exfalso
          rw [vd_true, hm, mg_nat0, h1] at hv
          have : 0 < (i.natAbs : Rat) := Rat.natCast_pos.2 (by omega)
          grind
    · by_cases hz : i = 0
      · subst hz; cases s <;> rfl
      · cases s
        · exfalso
          rw [vd_false, hm, mg_nat0, h1] at hv
          have : 0 < (i.natAbs : Rat) := Rat.natCast_pos.2 (by omega)
          grind
        · show -((i.natAbs : Nat) : Int) = i; omega
  have h1 : ftoi .f64 a .i64 = some i := by
    unfold ftoi floatToIntVal
    have h2 : (FloatKind.f64.decode a).toInt .zero = some (signed s (wholeOf m e) 0) := by
      rw [decode_eq, hr]
      unfold Datum.toInt Datum.integral
      simp only [cut_zero_eq]
      rfl
    rw [h2, hsg]
    have h3 : IntKind.i64.min ≤ i ∧ i ≤ IntKind.i64.max := by
      have a1 : IntKind.i64.min = -9223372036854775808 := by decide
      have a2 : IntKind.i64.max = 9223372036854775807 := by decide
      rw [a1, a2]; omega
    simp only
    rw [if_pos h3]
  exact ⟨by show (ftoi .f64 a .i64).isSome = true; rw [h1]; rfl, by show (ftoi .f64 a .i64).getD 0 = i; rw [h1]; rfl⟩

end Go.Dv
