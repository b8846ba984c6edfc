/- Printed by gen2.py. -/
import Derived.Test.YtbgpobiaaebbeaaDoorQd
import Derived.Test.YtbgpobiaaebbeaaDoorWf

set_option linter.unusedVariables false
set_option linter.unusedSimpArgs false

-- GENERATED BELOW (gen.py)
namespace Go.Dv
open Go.Cv
noncomputable section
def F_impl_BitsOf (r : Int) : AS.Ty (.cons (.one (.int .i64)) .nil) × List CS := ((r, ()), [])
def p_impl_BitsOf (M : FOps) (a0 : Nat) : Int :=
  (bif M.cmp BinOp.neq FloatKind.f32 a0 a0 then 2143289344 else IntKind.i64.wrap (p_math_Float32bits M a0))
def r_impl_BitsOf (M : FOps) (a0 : Nat) : Bool :=
  (bif M.cmp BinOp.neq FloatKind.f32 a0 a0 then true else ((M.cmp BinOp.eql FloatKind.f32 a0 a0) && true))
def S_impl_BitsOf (M : FOps) : FSpec := mkSpec (.cons (.one (.fl .f32)) .nil) (.cons (.one (.int .i64)) .nil) (fun x => r_impl_BitsOf M x.1) (fun x => F_impl_BitsOf (p_impl_BitsOf M x.1))

def F_spec_l01Bits (r : Int) : AS.Ty (.cons (.one (.int .i64)) .nil) × List CS := ((r, ()), [])
def p_spec_l01Bits (M : FOps) (a0 : Nat) : Int :=
  (bif M.cmp BinOp.neq FloatKind.f32 a0 a0 then 2143289344 else IntKind.i64.wrap (p_math_Float32bits M a0))
def r_spec_l01Bits (M : FOps) (a0 : Nat) : Bool :=
  (bif M.cmp BinOp.neq FloatKind.f32 a0 a0 then true else ((M.cmp BinOp.eql FloatKind.f32 a0 a0) && true))
def S_spec_l01Bits (M : FOps) : FSpec := mkSpec (.cons (.one (.fl .f32)) .nil) (.cons (.one (.int .i64)) .nil) (fun x => r_spec_l01Bits M x.1) (fun x => F_spec_l01Bits (p_spec_l01Bits M x.1))

end
end Go.Dv
