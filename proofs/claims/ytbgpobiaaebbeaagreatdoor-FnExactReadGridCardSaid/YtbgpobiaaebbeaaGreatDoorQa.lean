/- Printed by gen2.py. -/
import Derived.Test.YtbgpobiaaebbeaaGreatDoorDt

set_option linter.unusedVariables false
set_option linter.unusedSimpArgs false

-- GENERATED BELOW (gen.py)
namespace Go.Dv
open Go.Cv
noncomputable section
def F_impl_isFinite (r : Bool) : AS.Ty (.cons (.one .bool) .nil) × List CS := ((r, ()), [])
def p_impl_isFinite (M : FOps) (a0 : Nat) : Bool :=
  M.cmp BinOp.eql FloatKind.f64 (M.bin BinOp.sub FloatKind.f64 a0 a0) 0
def S_impl_isFinite (M : FOps) : FSpec := mkSpec (.cons (.one (.fl .f64)) .nil) (.cons (.one .bool) .nil) (fun _ => true) (fun x => F_impl_isFinite (p_impl_isFinite M x.1))

def F_impl_IsFinite (r : Bool) : AS.Ty (.cons (.one .bool) .nil) × List CS := ((r, ()), [])
def p_impl_IsFinite (M : FOps) (a0 : Nat) : Bool :=
  p_impl_isFinite M (M.wid a0)
def S_impl_IsFinite (M : FOps) : FSpec := mkSpec (.cons (.one (.fl .f32)) .nil) (.cons (.one .bool) .nil) (fun _ => true) (fun x => F_impl_IsFinite (p_impl_IsFinite M x.1))

def F_spec_l01Finite (r : Bool) : AS.Ty (.cons (.one .bool) .nil) × List CS := ((r, ()), [])
def p_spec_l01Finite (M : FOps) (a0 : Nat) : Bool :=
  M.cmp BinOp.eql FloatKind.f32 (M.bin BinOp.sub FloatKind.f32 a0 a0) 0
def S_spec_l01Finite (M : FOps) : FSpec := mkSpec (.cons (.one (.fl .f32)) .nil) (.cons (.one .bool) .nil) (fun _ => true) (fun x => F_spec_l01Finite (p_spec_l01Finite M x.1))

def F_impl_within (r : Bool) : AS.Ty (.cons (.one .bool) .nil) × List CS := ((r, ()), [])
def p_impl_within (M : FOps) (a0 : Int) (a1 : Int) (a2 : Int) : Bool :=
  (bif decide (a1 ≤ a0) then decide (a0 ≤ a2) else false)
def S_impl_within (M : FOps) : FSpec := mkSpec (.cons (.one (.int .i64)) (.cons (.one (.int .i64)) (.cons (.one (.int .i64)) .nil))) (.cons (.one .bool) .nil) (fun _ => true) (fun x => F_impl_within (p_impl_within M x.1 x.2.1 x.2.2.1))

def F_laws_sameFloat (r : Bool) : AS.Ty (.cons (.one .bool) .nil) × List CS := ((r, ()), [])
def p_laws_sameFloat (M : FOps) (a0 : Nat) (a1 : Nat) : Bool :=
  (bif M.cmp BinOp.neq FloatKind.f64 a0 a0 then (bif M.cmp BinOp.neq FloatKind.f64 a0 a0 then M.cmp BinOp.neq FloatKind.f64 a1 a1 else false) else (bif M.cmp BinOp.neq FloatKind.f64 a1 a1 then (bif M.cmp BinOp.neq FloatKind.f64 a0 a0 then M.cmp BinOp.neq FloatKind.f64 a1 a1 else false) else (bif M.cmp BinOp.eql FloatKind.f64 a0 0 then (bif M.cmp BinOp.eql FloatKind.f64 a1 0 then M.cmp BinOp.gtr FloatKind.f64 (M.bin BinOp.quo FloatKind.f64 4607182418800017408 a0) 0 == M.cmp BinOp.gtr FloatKind.f64 (M.bin BinOp.quo FloatKind.f64 4607182418800017408 a1) 0 else M.cmp BinOp.eql FloatKind.f64 a0 a1) else M.cmp BinOp.eql FloatKind.f64 a0 a1)))
def S_laws_sameFloat (M : FOps) : FSpec := mkSpec (.cons (.one (.fl .f64)) (.cons (.one (.fl .f64)) .nil)) (.cons (.one .bool) .nil) (fun _ => true) (fun x => F_laws_sameFloat (p_laws_sameFloat M x.1 x.2.1))

end
end Go.Dv
