/- Printed by gen2.py. -/
import Derived.Test.YtgfplcpjnlignaaDoorWkc
import Derived.Test.YtgfplcpjnlignaaDoorQa
import Derived.Test.YtgfplcpjnlignaaDoorWke

set_option linter.unusedVariables false
set_option linter.unusedSimpArgs false

-- GENERATED BELOW (gen.py)
namespace Go.Dv
open Go.Cv
noncomputable section
def c0_impl_stepOf (M : FOps) (a0 : Nat) : Nat := p_math_Floor M (M.bin BinOp.add FloatKind.f64 (M.bin BinOp.mul FloatKind.f64 (M.wid a0) 4715268809856909312) 4602678819172646912)
def F_impl_stepOf (r : Int) : AS.Ty (.cons (.one (.int .i64)) .nil) × List CS := ((r, ()), [])
def p_impl_stepOf (M : FOps) (a0 : Nat) : Int :=
  M.toi FloatKind.f64 (c0_impl_stepOf M a0) IntKind.i64
def r_impl_stepOf (M : FOps) (a0 : Nat) : Bool :=
  ((M.toiOk FloatKind.f64 (c0_impl_stepOf M a0) IntKind.i64) && true)
def S_impl_stepOf (M : FOps) : FSpec := mkSpec (.cons (.one (.fl .f32)) .nil) (.cons (.one (.int .i64)) .nil) (fun x => r_impl_stepOf M x.1) (fun x => F_impl_stepOf (p_impl_stepOf M x.1))

def c0_impl_StepsOf (M : FOps) (a0_0 : Nat) (a0_1 : Nat) : Int := p_impl_stepOf M a0_1
def F_impl_StepsOf (r : Int × Int × Bool) : AS.Ty (.cons (.one (.int .i64)) (.cons (.one (.int .i64)) (.cons (.one .bool) .nil))) × List CS := ((r.1, (r.2.1, (r.2.2, ()))), [])
def p_impl_StepsOf (M : FOps) (a0_0 : Nat) (a0_1 : Nat) : Int × Int × Bool :=
  (bif !p_impl_ValidPlace M a0_0 a0_1 then (0, 0, false) else (bif (c0_impl_StepsOf M a0_0 a0_1) == 8388608 then (p_impl_stepOf M a0_0, Int.negSucc 8388607, true) else (p_impl_stepOf M a0_0, (c0_impl_StepsOf M a0_0 a0_1), true)))
def r_impl_StepsOf (M : FOps) (a0_0 : Nat) (a0_1 : Nat) : Bool :=
  (bif !p_impl_ValidPlace M a0_0 a0_1 then true else ((r_impl_stepOf M a0_0) && ((r_impl_stepOf M a0_1) && true)))
def S_impl_StepsOf (M : FOps) : FSpec := mkSpec (.cons (.agg (.pair (.fl .f32) (.fl .f32))) .nil) (.cons (.one (.int .i64)) (.cons (.one (.int .i64)) (.cons (.one .bool) .nil))) (fun x => r_impl_StepsOf M x.1.1 x.1.2) (fun x => F_impl_StepsOf (p_impl_StepsOf M x.1.1 x.1.2))

def F_impl_PlaceOfSteps (r : Nat × Nat × Bool) : AS.Ty (.cons (.agg (.pair (.fl .f32) (.fl .f32))) (.cons (.one .bool) .nil)) × List CS := (((r.1, r.2.1), (r.2.2, ())), [])
def p_impl_PlaceOfSteps (M : FOps) (a0 : Int) (a1 : Int) : Nat × Nat × Bool :=
  (bif !p_impl_within M a0 (Int.negSucc 4194303) 4194304 then (0, 0, false) else (bif !p_impl_within M a1 (Int.negSucc 8388607) 8388607 then (0, 0, false) else (M.bin BinOp.quo FloatKind.f32 (M.ofi FloatKind.f32 a0) 1266679808, M.bin BinOp.quo FloatKind.f32 (M.ofi FloatKind.f32 a1) 1266679808, true)))
def S_impl_PlaceOfSteps (M : FOps) : FSpec := mkSpec (.cons (.one (.int .i64)) (.cons (.one (.int .i64)) .nil)) (.cons (.agg (.pair (.fl .f32) (.fl .f32))) (.cons (.one .bool) .nil)) (fun _ => true) (fun x => F_impl_PlaceOfSteps (p_impl_PlaceOfSteps M x.1 x.2.1))

end
end Go.Dv
