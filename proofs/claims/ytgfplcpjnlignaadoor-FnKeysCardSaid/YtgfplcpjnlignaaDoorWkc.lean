/- Printed by gen2.py. -/
import Derived.Test.YtgfplcpjnlignaaDoorDr
import Derived.Test.YtgfplcpjnlignaaDoorQa

set_option linter.unusedVariables false
set_option linter.unusedSimpArgs false

-- GENERATED BELOW (gen.py)
namespace Go.Dv
open Go.Cv
noncomputable section
def F_spec_l00In (r : Bool) : AS.Ty (.cons (.one .bool) .nil) × List CS := ((r, ()), [])
def p_spec_l00In (M : FOps) (a0 : Int) (a1 : Int) (a2 : Int) : Bool :=
  (bif decide (a0 ≥ a1) then decide (a0 ≤ a2) else false)
def S_spec_l00In (M : FOps) : FSpec := mkSpec (.cons (.one (.int .i64)) (.cons (.one (.int .i64)) (.cons (.one (.int .i64)) .nil))) (.cons (.one .bool) .nil) (fun _ => true) (fun x => F_spec_l00In (p_spec_l00In M x.1 x.2.1 x.2.2.1))

end
end Go.Dv
