/- Printed by gen2.py. -/
import Derived.Test.YtgfplcpjnlignaaDoorDt

set_option linter.unusedVariables false
set_option linter.unusedSimpArgs false

-- GENERATED BELOW (gen.py)
namespace Go.Dv
open Go.Cv
noncomputable section
def F_math_Floor (r : Nat) : AS.Ty (.cons (.one (.fl .f64)) .nil) × List CS := ((r, ()), [])
def p_math_Floor (M : FOps) (a0 : Nat) : Nat :=
  M.floor a0
def S_math_Floor (M : FOps) : FSpec := mkSpec (.cons (.one (.fl .f64)) .nil) (.cons (.one (.fl .f64)) .nil) (fun _ => true) (fun x => F_math_Floor (p_math_Floor M x.1))

def F_impl_inside (r : Bool) : AS.Ty (.cons (.one .bool) .nil) × List CS := ((r, ()), [])
def p_impl_inside (M : FOps) (a0 : Nat) (a1 : Nat) (a2 : Nat) : Bool :=
  (bif M.cmp BinOp.geq FloatKind.f32 a0 a1 then M.cmp BinOp.leq FloatKind.f32 a0 a2 else false)
def S_impl_inside (M : FOps) : FSpec := mkSpec (.cons (.one (.fl .f32)) (.cons (.one (.fl .f32)) (.cons (.one (.fl .f32)) .nil))) (.cons (.one .bool) .nil) (fun _ => true) (fun x => F_impl_inside (p_impl_inside M x.1 x.2.1 x.2.2.1))

def F_impl_ValidPlace (r : Bool) : AS.Ty (.cons (.one .bool) .nil) × List CS := ((r, ()), [])
def p_impl_ValidPlace (M : FOps) (a0_0 : Nat) (a0_1 : Nat) : Bool :=
  (bif p_impl_inside M a0_0 3196059648 1048576000 then (bif M.cmp BinOp.geq FloatKind.f32 a0_1 3204448256 then M.cmp BinOp.lss FloatKind.f32 a0_1 1056964608 else false) else false)
def S_impl_ValidPlace (M : FOps) : FSpec := mkSpec (.cons (.agg (.pair (.fl .f32) (.fl .f32))) .nil) (.cons (.one .bool) .nil) (fun _ => true) (fun x => F_impl_ValidPlace (p_impl_ValidPlace M x.1.1 x.1.2))

def F_impl_within (r : Bool) : AS.Ty (.cons (.one .bool) .nil) × List CS := ((r, ()), [])
def p_impl_within (M : FOps) (a0 : Int) (a1 : Int) (a2 : Int) : Bool :=
  (bif decide (a1 ≤ a0) then decide (a0 ≤ a2) else false)
def S_impl_within (M : FOps) : FSpec := mkSpec (.cons (.one (.int .i64)) (.cons (.one (.int .i64)) (.cons (.one (.int .i64)) .nil))) (.cons (.one .bool) .nil) (fun _ => true) (fun x => F_impl_within (p_impl_within M x.1 x.2.1 x.2.2.1))

end
end Go.Dv
