/- Printed by gen2.py. -/
import Derived.Test.YtbgpobiaaebbeaaDoorQd
import Derived.Test.YtbgpobiaaebbeaaDoorWa
import Derived.Test.YtbgpobiaaebbeaaDoorWe

set_option linter.unusedVariables false
set_option linter.unusedSimpArgs false

-- GENERATED BELOW (gen.py)
namespace Go.Dv
open Go.Cv
noncomputable section
def F_laws_szPlaceS (r : Int) : AS.Ty (.cons (.one (.int .i64)) .nil) × List CS := ((r, ()), [])
def p_laws_szPlaceS (M : FOps) (a0 : (List (Nat × Nat))) (a1 : Int) : Int :=
  (bif decide (IntKind.i64.wrap (a1 - (↑a0.length : Int)) < 0) then Int.negSucc 0 else IntKind.i64.wrap (a1 - (↑a0.length : Int)))
def S_laws_szPlaceS (M : FOps) : FSpec := mkSpec (.cons (.one (.ls (.pair (.fl .f32) (.fl .f32)))) (.cons (.one (.int .i64)) .nil)) (.cons (.one (.int .i64)) .nil) (fun _ => true) (fun x => F_laws_szPlaceS (p_laws_szPlaceS M x.1 x.2.1))

end
end Go.Dv
