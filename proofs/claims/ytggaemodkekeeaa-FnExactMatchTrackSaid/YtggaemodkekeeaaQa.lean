/- Printed by gen2.py. -/
import Derived.Test.YtggaemodkekeeaaDt

set_option linter.unusedVariables false
set_option linter.unusedSimpArgs false

-- GENERATED BELOW (gen.py)
namespace Go.Dv
open Go.Cv
noncomputable section
def F_math_NaN (r : Nat) : AS.Ty (.cons (.one (.fl .f64)) .nil) × List CS := ((r, ()), [])
def p_math_NaN (M : FOps) : Nat :=
  9221120237041090561
def S_math_NaN (M : FOps) : FSpec := mkSpec .nil (.cons (.one (.fl .f64)) .nil) (fun _ => true) (fun _ => F_math_NaN (p_math_NaN M))

def F_math_Floor (r : Nat) : AS.Ty (.cons (.one (.fl .f64)) .nil) × List CS := ((r, ()), [])
def p_math_Floor (M : FOps) (a0 : Nat) : Nat :=
  M.floor a0
def S_math_Floor (M : FOps) : FSpec := mkSpec (.cons (.one (.fl .f64)) .nil) (.cons (.one (.fl .f64)) .nil) (fun _ => true) (fun x => F_math_Floor (p_math_Floor M x.1))

def F_math_Sqrt (r : Nat) : AS.Ty (.cons (.one (.fl .f64)) .nil) × List CS := ((r, ()), [])
def p_math_Sqrt (M : FOps) (a0 : Nat) : Nat :=
  M.sqrt a0
def S_math_Sqrt (M : FOps) : FSpec := mkSpec (.cons (.one (.fl .f64)) .nil) (.cons (.one (.fl .f64)) .nil) (fun _ => true) (fun x => F_math_Sqrt (p_math_Sqrt M x.1))

def F_math_Trunc (r : Nat) : AS.Ty (.cons (.one (.fl .f64)) .nil) × List CS := ((r, ()), [])
def p_math_Trunc (M : FOps) (a0 : Nat) : Nat :=
  M.trunc a0
def S_math_Trunc (M : FOps) : FSpec := mkSpec (.cons (.one (.fl .f64)) .nil) (.cons (.one (.fl .f64)) .nil) (fun _ => true) (fun x => F_math_Trunc (p_math_Trunc M x.1))

def F_impl_isFinite (r : Bool) : AS.Ty (.cons (.one .bool) .nil) × List CS := ((r, ()), [])
def p_impl_isFinite (M : FOps) (a0 : Nat) : Bool :=
  M.cmp BinOp.eql FloatKind.f64 (M.bin BinOp.sub FloatKind.f64 a0 a0) 0
def S_impl_isFinite (M : FOps) : FSpec := mkSpec (.cons (.one (.fl .f64)) .nil) (.cons (.one .bool) .nil) (fun _ => true) (fun x => F_impl_isFinite (p_impl_isFinite M x.1))

def F_impl_IsFinite (r : Bool) : AS.Ty (.cons (.one .bool) .nil) × List CS := ((r, ()), [])
def p_impl_IsFinite (M : FOps) (a0 : Nat) : Bool :=
  p_impl_isFinite M (M.wid a0)
def S_impl_IsFinite (M : FOps) : FSpec := mkSpec (.cons (.one (.fl .f32)) .nil) (.cons (.one .bool) .nil) (fun _ => true) (fun x => F_impl_IsFinite (p_impl_IsFinite M x.1))

def F_impl_fraction (r : Nat) : AS.Ty (.cons (.one (.fl .f64)) .nil) × List CS := ((r, ()), [])
def p_impl_fraction (M : FOps) (a0 : Nat) : Nat :=
  (bif M.cmp BinOp.eql FloatKind.f64 (p_math_Trunc M a0) 0 then (bif M.cmp BinOp.lss FloatKind.f64 (M.bin BinOp.sub FloatKind.f64 a0 0) 0 then M.bin BinOp.add FloatKind.f64 (M.bin BinOp.sub FloatKind.f64 a0 0) 4607182418800017408 else M.bin BinOp.sub FloatKind.f64 a0 0) else (bif M.cmp BinOp.lss FloatKind.f64 (M.bin BinOp.sub FloatKind.f64 a0 (p_math_Trunc M a0)) 0 then M.bin BinOp.add FloatKind.f64 (M.bin BinOp.sub FloatKind.f64 a0 (p_math_Trunc M a0)) 4607182418800017408 else M.bin BinOp.sub FloatKind.f64 a0 (p_math_Trunc M a0)))
def S_impl_fraction (M : FOps) : FSpec := mkSpec (.cons (.one (.fl .f64)) .nil) (.cons (.one (.fl .f64)) .nil) (fun _ => true) (fun x => F_impl_fraction (p_impl_fraction M x.1))

def F_impl_floor (r : Nat) : AS.Ty (.cons (.one (.fl .f32)) .nil) × List CS := ((r, ()), [])
def p_impl_floor (M : FOps) (a0 : Nat) : Nat :=
  M.nar (p_math_Floor M (M.wid a0))
def r_impl_floor (M : FOps) (a0 : Nat) : Bool :=
  ((M.narOk (p_math_Floor M (M.wid a0))) && true)
def S_impl_floor (M : FOps) : FSpec := mkSpec (.cons (.one (.fl .f32)) .nil) (.cons (.one (.fl .f32)) .nil) (fun _ => true) (fun x => F_impl_floor (p_impl_floor M x.1))

def F_impl_RootNumber (r : Nat) : AS.Ty (.cons (.one (.fl .f32)) .nil) × List CS := ((r, ()), [])
def p_impl_RootNumber (M : FOps) (a0 : Nat) : Nat :=
  M.nar (p_math_Sqrt M (M.wid a0))
def r_impl_RootNumber (M : FOps) (a0 : Nat) : Bool :=
  ((M.narOk (p_math_Sqrt M (M.wid a0))) && true)
def S_impl_RootNumber (M : FOps) : FSpec := mkSpec (.cons (.one (.fl .f32)) .nil) (.cons (.one (.fl .f32)) .nil) (fun _ => true) (fun x => F_impl_RootNumber (p_impl_RootNumber M x.1))

def F_spec_l01Narrow (r : Nat) : AS.Ty (.cons (.one (.fl .f32)) .nil) × List CS := ((r, ()), [])
def p_spec_l01Narrow (M : FOps) (a0 : Nat) : Nat :=
  M.nar a0
def r_spec_l01Narrow (M : FOps) (a0 : Nat) : Bool :=
  ((M.narOk a0) && true)
def S_spec_l01Narrow (M : FOps) : FSpec := mkSpec (.cons (.one (.fl .f64)) .nil) (.cons (.one (.fl .f32)) .nil) (fun x => r_spec_l01Narrow M x.1) (fun x => F_spec_l01Narrow (p_spec_l01Narrow M x.1))

def F_spec_l01Sqrt (r : Nat) : AS.Ty (.cons (.one (.fl .f32)) .nil) × List CS := ((r, ()), [])
def p_spec_l01Sqrt (M : FOps) (a0 : Nat) : Nat :=
  p_spec_l01Narrow M (p_math_Sqrt M (M.wid a0))
def r_spec_l01Sqrt (M : FOps) (a0 : Nat) : Bool :=
  ((true && true && r_spec_l01Narrow M (p_math_Sqrt M (M.wid a0))) && true)
def S_spec_l01Sqrt (M : FOps) : FSpec := mkSpec (.cons (.one (.fl .f32)) .nil) (.cons (.one (.fl .f32)) .nil) (fun _ => true) (fun x => F_spec_l01Sqrt (p_spec_l01Sqrt M x.1))

def F_impl_inside (r : Bool) : AS.Ty (.cons (.one .bool) .nil) × List CS := ((r, ()), [])
def p_impl_inside (M : FOps) (a0 : Nat) (a1 : Nat) (a2 : Nat) : Bool :=
  (bif M.cmp BinOp.geq FloatKind.f32 a0 a1 then M.cmp BinOp.leq FloatKind.f32 a0 a2 else false)
def S_impl_inside (M : FOps) : FSpec := mkSpec (.cons (.one (.fl .f32)) (.cons (.one (.fl .f32)) (.cons (.one (.fl .f32)) .nil))) (.cons (.one .bool) .nil) (fun _ => true) (fun x => F_impl_inside (p_impl_inside M x.1 x.2.1 x.2.2.1))

def F_impl_ValidPlace (r : Bool) : AS.Ty (.cons (.one .bool) .nil) × List CS := ((r, ()), [])
def p_impl_ValidPlace (M : FOps) (a0_0 : Nat) (a0_1 : Nat) : Bool :=
  (bif p_impl_inside M a0_0 3196059648 1048576000 then (bif M.cmp BinOp.geq FloatKind.f32 a0_1 3204448256 then M.cmp BinOp.lss FloatKind.f32 a0_1 1056964608 else false) else false)
def S_impl_ValidPlace (M : FOps) : FSpec := mkSpec (.cons (.agg (.pair (.fl .f32) (.fl .f32))) .nil) (.cons (.one .bool) .nil) (fun _ => true) (fun x => F_impl_ValidPlace (p_impl_ValidPlace M x.1.1 x.1.2))

def F_spec_l02Is (r : Bool) : AS.Ty (.cons (.one .bool) .nil) × List CS := ((r, ()), [])
def p_spec_l02Is (M : FOps) (a0_0 : Nat) (a0_1 : Nat) : Bool :=
  (bif M.cmp BinOp.geq FloatKind.f32 a0_0 3196059648 then (bif M.cmp BinOp.leq FloatKind.f32 a0_0 1048576000 then (bif M.cmp BinOp.geq FloatKind.f32 a0_1 3204448256 then M.cmp BinOp.lss FloatKind.f32 a0_1 1056964608 else false) else false) else false)
def S_spec_l02Is (M : FOps) : FSpec := mkSpec (.cons (.ptr (.pair (.fl .f32) (.fl .f32))) .nil) (.cons (.one .bool) .nil) (fun _ => true) (fun x => F_spec_l02Is (p_spec_l02Is M x.1.1 x.1.2))

def F_impl_within (r : Bool) : AS.Ty (.cons (.one .bool) .nil) × List CS := ((r, ()), [])
def p_impl_within (M : FOps) (a0 : Int) (a1 : Int) (a2 : Int) : Bool :=
  (bif decide (a1 ≤ a0) then decide (a0 ≤ a2) else false)
def S_impl_within (M : FOps) : FSpec := mkSpec (.cons (.one (.int .i64)) (.cons (.one (.int .i64)) (.cons (.one (.int .i64)) .nil))) (.cons (.one .bool) .nil) (fun _ => true) (fun x => F_impl_within (p_impl_within M x.1 x.2.1 x.2.2.1))

def F_impl_dotOf (r : Nat) : AS.Ty (.cons (.one (.fl .f32)) .nil) × List CS := ((r, ()), [])
def p_impl_dotOf (M : FOps) (a0_0 : Nat) (a0_1 : Nat) (a0_2 : Nat) (a1_0 : Nat) (a1_1 : Nat) (a1_2 : Nat) : Nat :=
  M.bin BinOp.add FloatKind.f32 (M.bin BinOp.add FloatKind.f32 (M.bin BinOp.mul FloatKind.f32 a0_0 a1_0) (M.bin BinOp.mul FloatKind.f32 a0_1 a1_1)) (M.bin BinOp.mul FloatKind.f32 a0_2 a1_2)
def S_impl_dotOf (M : FOps) : FSpec := mkSpec (.cons (.agg (.pair (.fl .f32) (.pair (.fl .f32) (.fl .f32)))) (.cons (.agg (.pair (.fl .f32) (.pair (.fl .f32) (.fl .f32)))) .nil)) (.cons (.one (.fl .f32)) .nil) (fun _ => true) (fun x => F_impl_dotOf (p_impl_dotOf M x.1.1 x.1.2.1 x.1.2.2 x.2.1.1 x.2.1.2.1 x.2.1.2.2))

def F_spec_l02Dot (r : Nat) : AS.Ty (.cons (.one (.fl .f32)) .nil) × List CS := ((r, ()), [])
def p_spec_l02Dot (M : FOps) (a0_0 : Nat) (a0_1 : Nat) (a0_2 : Nat) (a1_0 : Nat) (a1_1 : Nat) (a1_2 : Nat) : Nat :=
  M.bin BinOp.add FloatKind.f32 (M.bin BinOp.add FloatKind.f32 (M.bin BinOp.mul FloatKind.f32 a0_0 a1_0) (M.bin BinOp.mul FloatKind.f32 a0_1 a1_1)) (M.bin BinOp.mul FloatKind.f32 a0_2 a1_2)
def S_spec_l02Dot (M : FOps) : FSpec := mkSpec (.cons (.agg (.pair (.fl .f32) (.pair (.fl .f32) (.fl .f32)))) (.cons (.agg (.pair (.fl .f32) (.pair (.fl .f32) (.fl .f32)))) .nil)) (.cons (.one (.fl .f32)) .nil) (fun _ => true) (fun x => F_spec_l02Dot (p_spec_l02Dot M x.1.1 x.1.2.1 x.1.2.2 x.2.1.1 x.2.1.2.1 x.2.1.2.2))

def F_impl_cross (r : Nat × Nat × Nat) : AS.Ty (.cons (.agg (.pair (.fl .f32) (.pair (.fl .f32) (.fl .f32)))) .nil) × List CS := (((r.1, (r.2.1, r.2.2)), ()), [])
def p_impl_cross (M : FOps) (a0_0 : Nat) (a0_1 : Nat) (a0_2 : Nat) (a1_0 : Nat) (a1_1 : Nat) (a1_2 : Nat) : Nat × Nat × Nat :=
  (M.bin BinOp.sub FloatKind.f32 (M.bin BinOp.mul FloatKind.f32 a0_1 a1_2) (M.bin BinOp.mul FloatKind.f32 a0_2 a1_1), M.bin BinOp.sub FloatKind.f32 (M.bin BinOp.mul FloatKind.f32 a0_2 a1_0) (M.bin BinOp.mul FloatKind.f32 a0_0 a1_2), M.bin BinOp.sub FloatKind.f32 (M.bin BinOp.mul FloatKind.f32 a0_0 a1_1) (M.bin BinOp.mul FloatKind.f32 a0_1 a1_0))
def S_impl_cross (M : FOps) : FSpec := mkSpec (.cons (.agg (.pair (.fl .f32) (.pair (.fl .f32) (.fl .f32)))) (.cons (.agg (.pair (.fl .f32) (.pair (.fl .f32) (.fl .f32)))) .nil)) (.cons (.agg (.pair (.fl .f32) (.pair (.fl .f32) (.fl .f32)))) .nil) (fun _ => true) (fun x => F_impl_cross (p_impl_cross M x.1.1 x.1.2.1 x.1.2.2 x.2.1.1 x.2.1.2.1 x.2.1.2.2))

def F_spec_l02Cross (r : Nat × Nat × Nat) : AS.Ty (.cons (.agg (.pair (.fl .f32) (.pair (.fl .f32) (.fl .f32)))) .nil) × List CS := (((r.1, (r.2.1, r.2.2)), ()), [])
def p_spec_l02Cross (M : FOps) (a0_0 : Nat) (a0_1 : Nat) (a0_2 : Nat) (a1_0 : Nat) (a1_1 : Nat) (a1_2 : Nat) : Nat × Nat × Nat :=
  (M.bin BinOp.sub FloatKind.f32 (M.bin BinOp.mul FloatKind.f32 a0_1 a1_2) (M.bin BinOp.mul FloatKind.f32 a0_2 a1_1), M.bin BinOp.sub FloatKind.f32 (M.bin BinOp.mul FloatKind.f32 a0_2 a1_0) (M.bin BinOp.mul FloatKind.f32 a0_0 a1_2), M.bin BinOp.sub FloatKind.f32 (M.bin BinOp.mul FloatKind.f32 a0_0 a1_1) (M.bin BinOp.mul FloatKind.f32 a0_1 a1_0))
def S_spec_l02Cross (M : FOps) : FSpec := mkSpec (.cons (.agg (.pair (.fl .f32) (.pair (.fl .f32) (.fl .f32)))) (.cons (.agg (.pair (.fl .f32) (.pair (.fl .f32) (.fl .f32)))) .nil)) (.cons (.agg (.pair (.fl .f32) (.pair (.fl .f32) (.fl .f32)))) .nil) (fun _ => true) (fun x => F_spec_l02Cross (p_spec_l02Cross M x.1.1 x.1.2.1 x.1.2.2 x.2.1.1 x.2.1.2.1 x.2.1.2.2))

def F_impl_Way_long (r : Nat) : AS.Ty (.cons (.one (.fl .f32)) .nil) × List CS := ((r, ()), [])
def p_impl_Way_long (M : FOps) (a0_0 : Nat) (a0_1 : Nat) (a0_2 : Nat) : Nat :=
  p_impl_RootNumber M (p_impl_dotOf M a0_0 a0_1 a0_2 a0_0 a0_1 a0_2)
def S_impl_Way_long (M : FOps) : FSpec := mkSpec (.cons (.agg (.pair (.fl .f32) (.pair (.fl .f32) (.fl .f32)))) .nil) (.cons (.one (.fl .f32)) .nil) (fun _ => true) (fun x => F_impl_Way_long (p_impl_Way_long M x.1.1 x.1.2.1 x.1.2.2))

def F_spec_l02Long (r : Nat) : AS.Ty (.cons (.one (.fl .f32)) .nil) × List CS := ((r, ()), [])
def p_spec_l02Long (M : FOps) (a0_0 : Nat) (a0_1 : Nat) (a0_2 : Nat) : Nat :=
  p_spec_l01Sqrt M (p_spec_l02Dot M a0_0 a0_1 a0_2 a0_0 a0_1 a0_2)
def S_spec_l02Long (M : FOps) : FSpec := mkSpec (.cons (.agg (.pair (.fl .f32) (.pair (.fl .f32) (.fl .f32)))) .nil) (.cons (.one (.fl .f32)) .nil) (fun _ => true) (fun x => F_spec_l02Long (p_spec_l02Long M x.1.1 x.1.2.1 x.1.2.2))

def F_laws_sameFloat (r : Bool) : AS.Ty (.cons (.one .bool) .nil) × List CS := ((r, ()), [])
def p_laws_sameFloat (M : FOps) (a0 : Nat) (a1 : Nat) : Bool :=
  (bif M.cmp BinOp.neq FloatKind.f64 a0 a0 then (bif M.cmp BinOp.neq FloatKind.f64 a0 a0 then M.cmp BinOp.neq FloatKind.f64 a1 a1 else false) else (bif M.cmp BinOp.neq FloatKind.f64 a1 a1 then (bif M.cmp BinOp.neq FloatKind.f64 a0 a0 then M.cmp BinOp.neq FloatKind.f64 a1 a1 else false) else (bif M.cmp BinOp.eql FloatKind.f64 a0 0 then (bif M.cmp BinOp.eql FloatKind.f64 a1 0 then M.cmp BinOp.gtr FloatKind.f64 (M.bin BinOp.quo FloatKind.f64 4607182418800017408 a0) 0 == M.cmp BinOp.gtr FloatKind.f64 (M.bin BinOp.quo FloatKind.f64 4607182418800017408 a1) 0 else M.cmp BinOp.eql FloatKind.f64 a0 a1) else M.cmp BinOp.eql FloatKind.f64 a0 a1)))
def S_laws_sameFloat (M : FOps) : FSpec := mkSpec (.cons (.one (.fl .f64)) (.cons (.one (.fl .f64)) .nil)) (.cons (.one .bool) .nil) (fun _ => true) (fun x => F_laws_sameFloat (p_laws_sameFloat M x.1 x.2.1))

def F_laws_eqPlace (r : Bool) : AS.Ty (.cons (.one .bool) .nil) × List CS := ((r, ()), [])
def p_laws_eqPlace (M : FOps) (a0_0 : Nat) (a0_1 : Nat) (a1_0 : Nat) (a1_1 : Nat) : Bool :=
  (bif !p_laws_sameFloat M (M.wid a0_0) (M.wid a1_0) then false else (bif !p_laws_sameFloat M (M.wid a0_1) (M.wid a1_1) then false else true))
def S_laws_eqPlace (M : FOps) : FSpec := mkSpec (.cons (.agg (.pair (.fl .f32) (.fl .f32))) (.cons (.agg (.pair (.fl .f32) (.fl .f32))) .nil)) (.cons (.one .bool) .nil) (fun _ => true) (fun x => F_laws_eqPlace (p_laws_eqPlace M x.1.1 x.1.2 x.2.1.1 x.2.1.2))

def F_laws_toPlace (r : Nat × Nat) : AS.Ty (.cons (.agg (.pair (.fl .f32) (.fl .f32))) .nil) × List CS := (((r.1, r.2), ()), [])
def p_laws_toPlace (M : FOps) (a0_0 : Nat) (a0_1 : Nat) : Nat × Nat :=
  (a0_0, a0_1)
def S_laws_toPlace (M : FOps) : FSpec := mkSpec (.cons (.agg (.pair (.fl .f32) (.fl .f32))) .nil) (.cons (.agg (.pair (.fl .f32) (.fl .f32))) .nil) (fun _ => true) (fun x => F_laws_toPlace (p_laws_toPlace M x.1.1 x.1.2))

end
end Go.Dv
