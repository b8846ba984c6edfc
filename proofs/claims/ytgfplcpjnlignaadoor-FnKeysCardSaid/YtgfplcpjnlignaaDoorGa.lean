/- Ga, Na: merged by merge.py. -/
import Derived.Test.YtgfplcpjnlignaaDoorFv
import Derived.Test.YtgfplcpjnlignaaDoorQa

/- Bounds of the numbers that the sine and the angle give; that what is narrowed fits. No program is in sight. -/
set_option linter.unusedVariables false
namespace Go.Dv
open Go.Cv
open Ieee

theorem p2_succ (E : Int) : p2 (E + 1) = p2 E + p2 E := by
  rw [p2_add]
  have : p2 1 = 2 := by unfold p2; exact Rat.zpow_one _
  rw [this]; grind
/-! ### the sine -/

/-! ### fractions -/
end Go.Dv

/- That what is narrowed fits (part 1). -/
namespace Go.Dv
open Go.Cv
open Ieee

end Go.Dv
