/- Printed by gen2.py. -/
import Derived.Test.YtjohfkfpfjdceaaGreatDoorDt

set_option linter.unusedVariables false
set_option linter.unusedSimpArgs false

-- GENERATED BELOW (gen.py)
namespace Go.Dv
open Go.Cv
noncomputable section
def F_math_NaN (r : Nat) : AS.Ty (.cons (.one (.fl .f64)) .nil) × List CS := ((r, ()), [])
def p_math_NaN (M : FOps) : Nat :=
  9221120237041090561
def S_math_NaN (M : FOps) : FSpec := mkSpec .nil (.cons (.one (.fl .f64)) .nil) (fun _ => true) (fun _ => F_math_NaN (p_math_NaN M))

def F_math_Sqrt (r : Nat) : AS.Ty (.cons (.one (.fl .f64)) .nil) × List CS := ((r, ()), [])
def p_math_Sqrt (M : FOps) (a0 : Nat) : Nat :=
  M.sqrt a0
def S_math_Sqrt (M : FOps) : FSpec := mkSpec (.cons (.one (.fl .f64)) .nil) (.cons (.one (.fl .f64)) .nil) (fun _ => true) (fun x => F_math_Sqrt (p_math_Sqrt M x.1))

def F_math_Trunc (r : Nat) : AS.Ty (.cons (.one (.fl .f64)) .nil) × List CS := ((r, ()), [])
def p_math_Trunc (M : FOps) (a0 : Nat) : Nat :=
  M.trunc a0
def S_math_Trunc (M : FOps) : FSpec := mkSpec (.cons (.one (.fl .f64)) .nil) (.cons (.one (.fl .f64)) .nil) (fun _ => true) (fun x => F_math_Trunc (p_math_Trunc M x.1))

def F_impl_isFinite (r : Bool) : AS.Ty (.cons (.one .bool) .nil) × List CS := ((r, ()), [])
def p_impl_isFinite (M : FOps) (a0 : Nat) : Bool :=
  M.cmp BinOp.eql FloatKind.f64 (M.bin BinOp.sub FloatKind.f64 a0 a0) 0
def S_impl_isFinite (M : FOps) : FSpec := mkSpec (.cons (.one (.fl .f64)) .nil) (.cons (.one .bool) .nil) (fun _ => true) (fun x => F_impl_isFinite (p_impl_isFinite M x.1))

def F_impl_IsFinite (r : Bool) : AS.Ty (.cons (.one .bool) .nil) × List CS := ((r, ()), [])
def p_impl_IsFinite (M : FOps) (a0 : Nat) : Bool :=
  p_impl_isFinite M (M.wid a0)
def S_impl_IsFinite (M : FOps) : FSpec := mkSpec (.cons (.one (.fl .f32)) .nil) (.cons (.one .bool) .nil) (fun _ => true) (fun x => F_impl_IsFinite (p_impl_IsFinite M x.1))

def F_impl_fraction (r : Nat) : AS.Ty (.cons (.one (.fl .f64)) .nil) × List CS := ((r, ()), [])
def p_impl_fraction (M : FOps) (a0 : Nat) : Nat :=
  (bif M.cmp BinOp.eql FloatKind.f64 (p_math_Trunc M a0) 0 then (bif M.cmp BinOp.lss FloatKind.f64 (M.bin BinOp.sub FloatKind.f64 a0 0) 0 then M.bin BinOp.add FloatKind.f64 (M.bin BinOp.sub FloatKind.f64 a0 0) 4607182418800017408 else M.bin BinOp.sub FloatKind.f64 a0 0) else (bif M.cmp BinOp.lss FloatKind.f64 (M.bin BinOp.sub FloatKind.f64 a0 (p_math_Trunc M a0)) 0 then M.bin BinOp.add FloatKind.f64 (M.bin BinOp.sub FloatKind.f64 a0 (p_math_Trunc M a0)) 4607182418800017408 else M.bin BinOp.sub FloatKind.f64 a0 (p_math_Trunc M a0)))
def S_impl_fraction (M : FOps) : FSpec := mkSpec (.cons (.one (.fl .f64)) .nil) (.cons (.one (.fl .f64)) .nil) (fun _ => true) (fun x => F_impl_fraction (p_impl_fraction M x.1))

def F_impl_within (r : Bool) : AS.Ty (.cons (.one .bool) .nil) × List CS := ((r, ()), [])
def p_impl_within (M : FOps) (a0 : Int) (a1 : Int) (a2 : Int) : Bool :=
  (bif decide (a1 ≤ a0) then decide (a0 ≤ a2) else false)
def S_impl_within (M : FOps) : FSpec := mkSpec (.cons (.one (.int .i64)) (.cons (.one (.int .i64)) (.cons (.one (.int .i64)) .nil))) (.cons (.one .bool) .nil) (fun _ => true) (fun x => F_impl_within (p_impl_within M x.1 x.2.1 x.2.2.1))

end
end Go.Dv
