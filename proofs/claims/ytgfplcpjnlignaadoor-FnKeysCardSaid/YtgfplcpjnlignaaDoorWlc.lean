/- Printed by gen2.py. -/
import Derived.Test.YtgfplcpjnlignaaDoorWla
import Derived.Test.YtgfplcpjnlignaaDoorWke
import Derived.Test.YtgfplcpjnlignaaDoorQa
import Derived.Test.YtgfplcpjnlignaaDoorWlj

set_option linter.unusedVariables false
set_option linter.unusedSimpArgs false

-- GENERATED BELOW (gen.py)
namespace Go.Dv
open Go.Cv
noncomputable section
def p_impl_IsSubnormal (M : FOps) (a0 : Nat) : Bool :=
  (bif M.cmp BinOp.neq FloatKind.f32 a0 0 then M.cmp BinOp.lss FloatKind.f64 (M.abs (M.wid a0)) 4039728865751334912 else false)
end
end Go.Dv
