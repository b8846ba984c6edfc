/- That what is narrowed fits (part 2); sine and angle of the program are those of the reference. -/
/- Lw, Lx: merged by merge.py. -/
import Derived.Test.YtbgpobiaaebbeaaDoorQb
import Derived.Test.YtbgpobiaaebbeaaDoorGa

namespace Go.Dv
open Go.Cv
open Ieee

theorem neq_not (k : FloatKind) (a b : Nat) : R.cmp .neq k a b = !R.cmp .eql k a b := rfl

/-! ### the sine -/

/-! ### the angle -/

end Go.Dv


/- The program's plain functions are the reference's. No program is in sight. -/
namespace Go.Dv
open Go.Cv
open Ieee

/-! ### what is compared -/
theorem sameFloat_refl (x : Nat) : p_laws_sameFloat R x x = true := by
  unfold p_laws_sameFloat
  simp only [neq_not]
  cases h : R.cmp .eql .f64 x x
  · rfl
  · cases R.cmp .eql .f64 x 0
    · simp
    · simp
theorem eqPlace_refl (x y : Nat) : p_laws_eqPlace R x y x y = true := by
  unfold p_laws_eqPlace
  rw [sameFloat_refl, sameFloat_refl]; rfl

end Go.Dv

/- The program's plain functions are the reference's (part 2). No program is in sight. -/
namespace Go.Dv
open Go.Cv
open Ieee

end Go.Dv
