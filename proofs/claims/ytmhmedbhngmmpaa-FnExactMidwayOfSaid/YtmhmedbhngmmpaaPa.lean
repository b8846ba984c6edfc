/- What the functions of the program and of the reference give, as plain functions (part 1): printed off their evaluation by this session's own program. -/
import Derived.Test.YtmhmedbhngmmpaaCvM

set_option linter.unusedVariables false
-- GENERATED BELOW (gen.py)
namespace Go.Cv
def F_math_NaN (r : Nat) : CV := .one (.s (.fl .f64 r))
def p_math_NaN (M : FOps) : Nat :=
  (cn FloatKind.f64 (Int.toNat 9221120237041090561))
def S_math_NaN (M : FOps) : FSpec := fun _ args => match args with
  | [] => some (true, F_math_NaN (p_math_NaN M), [])
  | _ => none


def F_math_Floor (r : Nat) : CV := .one (.s (.fl .f64 r))
def p_math_Floor (M : FOps) (a0 : Nat) : Nat :=
  (M.floor a0)
def S_math_Floor (M : FOps) : FSpec := fun _ args => match args with
  | [.s (.fl .f64 a0)] => some (true, F_math_Floor (p_math_Floor M a0), [])
  | _ => none


def F_math_Sqrt (r : Nat) : CV := .one (.s (.fl .f64 r))
def p_math_Sqrt (M : FOps) (a0 : Nat) : Nat :=
  (M.sqrt a0)
def S_math_Sqrt (M : FOps) : FSpec := fun _ args => match args with
  | [.s (.fl .f64 a0)] => some (true, F_math_Sqrt (p_math_Sqrt M a0), [])
  | _ => none


def F_math_Trunc (r : Nat) : CV := .one (.s (.fl .f64 r))
def p_math_Trunc (M : FOps) (a0 : Nat) : Nat :=
  (M.trunc a0)
def S_math_Trunc (M : FOps) : FSpec := fun _ args => match args with
  | [.s (.fl .f64 a0)] => some (true, F_math_Trunc (p_math_Trunc M a0), [])
  | _ => none


def F_math_Inf (r : Nat) : CV := .one (.s (.fl .f64 r))
def p_math_Inf (M : FOps) (a0 : Int) : Nat :=
  (bif decide (a0 ≥ 0) then (cn FloatKind.f64 (Int.toNat 9218868437227405312)) else (cn FloatKind.f64 (Int.toNat 18442240474082181120)))
def S_math_Inf (M : FOps) : FSpec := fun _ args => match args with
  | [.s (.v (.int .i64 a0))] => some (true, F_math_Inf (p_math_Inf M a0), [])
  | _ => none


def F_math_IsNaN (r : Bool) : CV := .one (.s (.v (.bool r)))
def p_math_IsNaN (M : FOps) (a0 : Nat) : Bool :=
  (M.cmp BinOp.neq FloatKind.f64 a0 a0)
def S_math_IsNaN (M : FOps) : FSpec := fun _ args => match args with
  | [.s (.fl .f64 a0)] => some (true, F_math_IsNaN (p_math_IsNaN M a0), [])
  | _ => none


def F_math_IsInf (r : Bool) : CV := .one (.s (.v (.bool r)))
def p_math_IsInf (M : FOps) (a0 : Nat) (a1 : Int) : Bool :=
  (bif a1 == 0 then (M.cmp BinOp.gtr FloatKind.f64 (M.abs a0) 9218868437227405311) else (bif decide (a1 < 0) then (M.cmp BinOp.gtr FloatKind.f64 (M.neg FloatKind.f64 a0) 9218868437227405311) else (M.cmp BinOp.gtr FloatKind.f64 a0 9218868437227405311)))
def S_math_IsInf (M : FOps) : FSpec := fun _ args => match args with
  | [.s (.fl .f64 a0), .s (.v (.int .i64 a1))] => some (true, F_math_IsInf (p_math_IsInf M a0 a1), [])
  | _ => none


def F_impl_isFinite (r : Bool) : CV := .one (.s (.v (.bool r)))
def p_impl_isFinite (M : FOps) (a0 : Nat) : Bool :=
  (M.cmp BinOp.eql FloatKind.f64 (M.bin BinOp.sub FloatKind.f64 a0 a0) 0)
def S_impl_isFinite (M : FOps) : FSpec := fun _ args => match args with
  | [.s (.fl .f64 a0)] => some (true, F_impl_isFinite (p_impl_isFinite M a0), [])
  | _ => none


def F_impl_IsFinite (r : Bool) : CV := .one (.s (.v (.bool r)))
def p_impl_IsFinite (M : FOps) (a0 : Nat) : Bool :=
  (p_impl_isFinite M (M.wid a0))
def S_impl_IsFinite (M : FOps) : FSpec := fun _ args => match args with
  | [.s (.fl .f32 a0)] => some (true, F_impl_IsFinite (p_impl_IsFinite M a0), [])
  | _ => none


def F_impl_fraction (r : Nat) : CV := .one (.s (.fl .f64 r))
def p_impl_fraction (M : FOps) (a0 : Nat) : Nat :=
  (bif M.cmp BinOp.eql FloatKind.f64 (p_math_Trunc M a0) 0 then (bif M.cmp BinOp.lss FloatKind.f64 (M.bin BinOp.sub FloatKind.f64 a0 0) 0 then (M.bin BinOp.add FloatKind.f64 (M.bin BinOp.sub FloatKind.f64 a0 0) 4607182418800017408) else (M.bin BinOp.sub FloatKind.f64 a0 0)) else (bif M.cmp BinOp.lss FloatKind.f64 (M.bin BinOp.sub FloatKind.f64 a0 (p_math_Trunc M a0)) 0 then (M.bin BinOp.add FloatKind.f64 (M.bin BinOp.sub FloatKind.f64 a0 (p_math_Trunc M a0)) 4607182418800017408) else (M.bin BinOp.sub FloatKind.f64 a0 (p_math_Trunc M a0))))
def S_impl_fraction (M : FOps) : FSpec := fun _ args => match args with
  | [.s (.fl .f64 a0)] => some (true, F_impl_fraction (p_impl_fraction M a0), [])
  | _ => none


def F_impl_floor (r : Nat) : CV := .one (.s (.fl .f32 r))
def p_impl_floor (M : FOps) (a0 : Nat) : Nat :=
  (M.nar (p_math_Floor M (M.wid a0)))
def r_impl_floor (M : FOps) (a0 : Nat) : Bool :=
  ((M.narOk (p_math_Floor M (M.wid a0))) && true)
def S_impl_floor (M : FOps) : FSpec := fun _ args => match args with
  | [.s (.fl .f32 a0)] => some (true, F_impl_floor (p_impl_floor M a0), [])
  | _ => none


def F_impl_RootNumber (r : Nat) : CV := .one (.s (.fl .f32 r))
def p_impl_RootNumber (M : FOps) (a0 : Nat) : Nat :=
  (M.nar (p_math_Sqrt M (M.wid a0)))
def r_impl_RootNumber (M : FOps) (a0 : Nat) : Bool :=
  ((M.narOk (p_math_Sqrt M (M.wid a0))) && true)
def S_impl_RootNumber (M : FOps) : FSpec := fun _ args => match args with
  | [.s (.fl .f32 a0)] => some (true, F_impl_RootNumber (p_impl_RootNumber M a0), [])
  | _ => none


def F_impl_absolute (r : Nat) : CV := .one (.s (.fl .f32 r))
def p_impl_absolute (M : FOps) (a0 : Nat) : Nat :=
  (M.nar (M.abs (M.wid a0)))
def r_impl_absolute (M : FOps) (a0 : Nat) : Bool :=
  ((M.narOk (M.abs (M.wid a0))) && true)
def S_impl_absolute (M : FOps) : FSpec := fun _ args => match args with
  | [.s (.fl .f32 a0)] => some (true, F_impl_absolute (p_impl_absolute M a0), [])
  | _ => none


def F_spec_l01Finite (r : Bool) : CV := .one (.s (.v (.bool r)))
def p_spec_l01Finite (M : FOps) (a0 : Nat) : Bool :=
  (M.cmp BinOp.eql FloatKind.f32 (M.bin BinOp.sub FloatKind.f32 a0 a0) 0)
def S_spec_l01Finite (M : FOps) : FSpec := fun _ args => match args with
  | [.s (.fl .f32 a0)] => some (true, F_spec_l01Finite (p_spec_l01Finite M a0), [])
  | _ => none


def F_spec_l01Narrow (r : Nat) : CV := .one (.s (.fl .f32 r))
def p_spec_l01Narrow (M : FOps) (a0 : Nat) : Nat :=
  (M.nar a0)
def r_spec_l01Narrow (M : FOps) (a0 : Nat) : Bool :=
  ((M.narOk a0) && true)
def S_spec_l01Narrow (M : FOps) : FSpec := fun _ args => match args with
  | [.s (.fl .f64 a0)] => some (r_spec_l01Narrow M a0, F_spec_l01Narrow (p_spec_l01Narrow M a0), [])
  | _ => none


def F_spec_l01Sqrt (r : Nat) : CV := .one (.s (.fl .f32 r))
def p_spec_l01Sqrt (M : FOps) (a0 : Nat) : Nat :=
  (p_spec_l01Narrow M (p_math_Sqrt M (M.wid a0)))
def r_spec_l01Sqrt (M : FOps) (a0 : Nat) : Bool :=
  ((r_spec_l01Narrow M (p_math_Sqrt M (M.wid a0))) && true)
def S_spec_l01Sqrt (M : FOps) : FSpec := fun _ args => match args with
  | [.s (.fl .f32 a0)] => some (true, F_spec_l01Sqrt (p_spec_l01Sqrt M a0), [])
  | _ => none


def F_impl_inside (r : Bool) : CV := .one (.s (.v (.bool r)))
def p_impl_inside (M : FOps) (a0 : Nat) (a1 : Nat) (a2 : Nat) : Bool :=
  (bif M.cmp BinOp.geq FloatKind.f32 a0 a1 then (M.cmp BinOp.leq FloatKind.f32 a0 a2) else (false))
def S_impl_inside (M : FOps) : FSpec := fun _ args => match args with
  | [.s (.fl .f32 a0), .s (.fl .f32 a1), .s (.fl .f32 a2)] => some (true, F_impl_inside (p_impl_inside M a0 a1 a2), [])
  | _ => none


def F_impl_ValidPlace (r : Bool) : CV := .one (.s (.v (.bool r)))
def p_impl_ValidPlace (M : FOps) (a0_0 : Nat) (a0_1 : Nat) : Bool :=
  (bif p_impl_inside M a0_0 3196059648 1048576000 then (bif M.cmp BinOp.geq FloatKind.f32 a0_1 3204448256 then (M.cmp BinOp.lss FloatKind.f32 a0_1 1056964608) else (false)) else (false))
def S_impl_ValidPlace (M : FOps) : FSpec := fun _ args => match args with
  | [.agg [.fl .f32 a0_0, .fl .f32 a0_1]] => some (true, F_impl_ValidPlace (p_impl_ValidPlace M a0_0 a0_1), [])
  | _ => none


def F_spec_l02Is (r : Bool) : CV := .one (.s (.v (.bool r)))
def p_spec_l02Is (M : FOps) (a0_0 : Nat) (a0_1 : Nat) : Bool :=
  (bif M.cmp BinOp.geq FloatKind.f32 a0_0 3196059648 then (bif M.cmp BinOp.leq FloatKind.f32 a0_0 1048576000 then (bif M.cmp BinOp.geq FloatKind.f32 a0_1 3204448256 then (M.cmp BinOp.lss FloatKind.f32 a0_1 1056964608) else (false)) else (false)) else (false))
def S_spec_l02Is (M : FOps) : FSpec := fun hp args => match args with
  | [b0] => match ptrCells hp 2 b0 with
    | some ([.fl .f32 a0_0, .fl .f32 a0_1], db0) => some (true, F_spec_l02Is (p_spec_l02Is M a0_0 a0_1), db0)
    | _ => none
  | _ => none


def F_impl_within (r : Bool) : CV := .one (.s (.v (.bool r)))
def p_impl_within (M : FOps) (a0 : Int) (a1 : Int) (a2 : Int) : Bool :=
  (bif decide (a1 ≤ a0) then (decide (a0 ≤ a2)) else (false))
def S_impl_within (M : FOps) : FSpec := fun _ args => match args with
  | [.s (.v (.int .i64 a0)), .s (.v (.int .i64 a1)), .s (.v (.int .i64 a2))] => some (true, F_impl_within (p_impl_within M a0 a1 a2), [])
  | _ => none


def F_spec_l02Two (r : Bool) : CV := .one (.s (.v (.bool r)))
def p_spec_l02Two (M : FOps) (a0_0 : Nat) (a0_1 : Nat) (a1_0 : Nat) (a1_1 : Nat) : Bool :=
  (bif p_spec_l02Is M a0_0 a0_1 then (p_spec_l02Is M a1_0 a1_1) else (false))
def S_spec_l02Two (M : FOps) : FSpec := fun _ args => match args with
  | [.agg [.fl .f32 a0_0, .fl .f32 a0_1], .agg [.fl .f32 a1_0, .fl .f32 a1_1]] => some (true, F_spec_l02Two (p_spec_l02Two M a0_0 a0_1 a1_0 a1_1), [])
  | _ => none


def F_spec_l02Number (r : Nat × Bool) : CV := .tup [.s (.fl .f32 r.1), .s (.v (.bool r.2))]
def p_spec_l02Number (M : FOps) (a0 : Nat) : Nat × Bool :=
  (bif !p_spec_l01Finite M a0 then (0, false) else (a0, true))
def S_spec_l02Number (M : FOps) : FSpec := fun _ args => match args with
  | [.s (.fl .f32 a0)] => some (true, F_spec_l02Number (p_spec_l02Number M a0), [])
  | _ => none


def F_impl_finite (r : Nat × Bool) : CV := .tup [.s (.fl .f32 r.1), .s (.v (.bool r.2))]
def p_impl_finite (M : FOps) (a0 : Nat) (a1 : Bool) : Nat × Bool :=
  (bif !a1 then (0, false) else (bif !p_impl_IsFinite M a0 then (0, false) else (a0, true)))
def S_impl_finite (M : FOps) : FSpec := fun _ args => match args with
  | [.s (.fl .f32 a0), .s (.v (.bool a1))] => some (true, F_impl_finite (p_impl_finite M a0 a1), [])
  | _ => none


def F_spec_l02Above (r : Bool) : CV := .one (.s (.v (.bool r)))
def p_spec_l02Above (M : FOps) (a0 : Nat) : Bool :=
  (bif p_spec_l01Finite M a0 then (M.cmp BinOp.gtr FloatKind.f32 a0 0) else (false))
def S_spec_l02Above (M : FOps) : FSpec := fun _ args => match args with
  | [.s (.fl .f32 a0)] => some (true, F_spec_l02Above (p_spec_l02Above M a0), [])
  | _ => none


def F_spec_l02Above0 (r : Nat) : CV := .one (.s (.fl .f32 r))
def p_spec_l02Above0 (M : FOps) (a0 : Nat) : Nat :=
  (bif M.cmp BinOp.lss FloatKind.f32 a0 0 then (M.bin BinOp.add FloatKind.f32 a0 1065353216) else (a0))
def S_spec_l02Above0 (M : FOps) : FSpec := fun _ args => match args with
  | [.s (.fl .f32 a0)] => some (true, F_spec_l02Above0 (p_spec_l02Above0 M a0), [])
  | _ => none


def F_impl_positive (r : Nat) : CV := .one (.s (.fl .f32 r))
def p_impl_positive (M : FOps) (a0 : Nat) : Nat :=
  (bif M.cmp BinOp.lss FloatKind.f32 a0 0 then (M.bin BinOp.add FloatKind.f32 a0 1065353216) else (a0))
def S_impl_positive (M : FOps) : FSpec := fun _ args => match args with
  | [.s (.fl .f32 a0)] => some (true, F_impl_positive (p_impl_positive M a0), [])
  | _ => none


def F_spec_l02Size (r : Nat) : CV := .one (.s (.fl .f32 r))
def p_spec_l02Size (M : FOps) (a0 : Nat) : Nat :=
  (bif M.cmp BinOp.leq FloatKind.f32 a0 0 then (M.bin BinOp.sub FloatKind.f32 0 a0) else (a0))
def S_spec_l02Size (M : FOps) : FSpec := fun _ args => match args with
  | [.s (.fl .f32 a0)] => some (true, F_spec_l02Size (p_spec_l02Size M a0), [])
  | _ => none


def F_spec_l02Ways (r : Bool) : CV := .one (.s (.v (.bool r)))
def p_spec_l02Ways (M : FOps) (a0_0 : Nat) (a0_1 : Nat) (a0_2 : Nat) : Bool :=
  (bif p_spec_l01Finite M a0_0 then (bif p_spec_l01Finite M a0_1 then (p_spec_l01Finite M a0_2) else (false)) else (false))
def S_spec_l02Ways (M : FOps) : FSpec := fun _ args => match args with
  | [.agg [.fl .f32 a0_0, .fl .f32 a0_1, .fl .f32 a0_2]] => some (true, F_spec_l02Ways (p_spec_l02Ways M a0_0 a0_1 a0_2), [])
  | _ => none


def F_spec_l02Give (r : Nat × Nat × Bool) : CV := .tup [.agg [.fl .f32 r.1, .fl .f32 r.2.1], .s (.v (.bool r.2.2))]
def p_spec_l02Give (M : FOps) (a0_0 : Nat) (a0_1 : Nat) : Nat × Nat × Bool :=
  (bif !p_spec_l02Is M a0_0 a0_1 then (0, 0, false) else (a0_0, a0_1, true))
def S_spec_l02Give (M : FOps) : FSpec := fun _ args => match args with
  | [.agg [.fl .f32 a0_0, .fl .f32 a0_1]] => some (true, F_spec_l02Give (p_spec_l02Give M a0_0 a0_1), [])
  | _ => none


def F_impl_valid (r : Nat × Nat × Bool) : CV := .tup [.agg [.fl .f32 r.1, .fl .f32 r.2.1], .s (.v (.bool r.2.2))]
def p_impl_valid (M : FOps) (a0_0 : Nat) (a0_1 : Nat) (a1 : Bool) : Nat × Nat × Bool :=
  (bif !a1 then (0, 0, false) else (bif !p_impl_ValidPlace M a0_0 a0_1 then (0, 0, false) else (a0_0, a0_1, true)))
def S_impl_valid (M : FOps) : FSpec := fun _ args => match args with
  | [.agg [.fl .f32 a0_0, .fl .f32 a0_1], .s (.v (.bool a1))] => some (true, F_impl_valid (p_impl_valid M a0_0 a0_1 a1), [])
  | _ => none


def F_spec_l02Wrap (r : Nat) : CV := .one (.s (.fl .f32 r))
def p_spec_l02Wrap (M : FOps) (a0 : Nat) : Nat :=
  (bif M.cmp BinOp.geq FloatKind.f32 (M.bin BinOp.sub FloatKind.f32 a0 (M.nar (p_math_Floor M (M.wid (M.bin BinOp.add FloatKind.f32 a0 1056964608))))) 1056964608 then (3204448256) else (M.bin BinOp.sub FloatKind.f32 a0 (M.nar (p_math_Floor M (M.wid (M.bin BinOp.add FloatKind.f32 a0 1056964608))))))
def r_spec_l02Wrap (M : FOps) (a0 : Nat) : Bool :=
  ((M.narOk (p_math_Floor M (M.wid (M.bin BinOp.add FloatKind.f32 a0 1056964608)))) && true)
def S_spec_l02Wrap (M : FOps) : FSpec := fun _ args => match args with
  | [.s (.fl .f32 a0)] => some (true, F_spec_l02Wrap (p_spec_l02Wrap M a0), [])
  | _ => none


def F_impl_wrap (r : Nat) : CV := .one (.s (.fl .f32 r))
def p_impl_wrap (M : FOps) (a0 : Nat) : Nat :=
  (bif M.cmp BinOp.geq FloatKind.f32 (M.bin BinOp.sub FloatKind.f32 a0 (p_impl_floor M (M.bin BinOp.add FloatKind.f32 a0 1056964608))) 1056964608 then (3204448256) else (M.bin BinOp.sub FloatKind.f32 a0 (p_impl_floor M (M.bin BinOp.add FloatKind.f32 a0 1056964608))))
def S_impl_wrap (M : FOps) : FSpec := fun _ args => match args with
  | [.s (.fl .f32 a0)] => some (true, F_impl_wrap (p_impl_wrap M a0), [])
  | _ => none


def F_impl_isBetweenPoles (r : Bool) : CV := .one (.s (.v (.bool r)))
def p_impl_isBetweenPoles (M : FOps) (a0 : Nat) : Bool :=
  (bif M.cmp BinOp.gtr FloatKind.f32 a0 3196059648 then (M.cmp BinOp.lss FloatKind.f32 a0 1048576000) else (false))
def S_impl_isBetweenPoles (M : FOps) : FSpec := fun _ args => match args with
  | [.s (.fl .f32 a0)] => some (true, F_impl_isBetweenPoles (p_impl_isBetweenPoles M a0), [])
  | _ => none


def F_impl_dotOf (r : Nat) : CV := .one (.s (.fl .f32 r))
def p_impl_dotOf (M : FOps) (a0_0 : Nat) (a0_1 : Nat) (a0_2 : Nat) (a1_0 : Nat) (a1_1 : Nat) (a1_2 : Nat) : Nat :=
  (M.bin BinOp.add FloatKind.f32 (M.bin BinOp.add FloatKind.f32 (M.bin BinOp.mul FloatKind.f32 a0_0 a1_0) (M.bin BinOp.mul FloatKind.f32 a0_1 a1_1)) (M.bin BinOp.mul FloatKind.f32 a0_2 a1_2))
def S_impl_dotOf (M : FOps) : FSpec := fun _ args => match args with
  | [.agg [.fl .f32 a0_0, .fl .f32 a0_1, .fl .f32 a0_2], .agg [.fl .f32 a1_0, .fl .f32 a1_1, .fl .f32 a1_2]] => some (true, F_impl_dotOf (p_impl_dotOf M a0_0 a0_1 a0_2 a1_0 a1_1 a1_2), [])
  | _ => none


def F_spec_l02Dot (r : Nat) : CV := .one (.s (.fl .f32 r))
def p_spec_l02Dot (M : FOps) (a0_0 : Nat) (a0_1 : Nat) (a0_2 : Nat) (a1_0 : Nat) (a1_1 : Nat) (a1_2 : Nat) : Nat :=
  (M.bin BinOp.add FloatKind.f32 (M.bin BinOp.add FloatKind.f32 (M.bin BinOp.mul FloatKind.f32 a0_0 a1_0) (M.bin BinOp.mul FloatKind.f32 a0_1 a1_1)) (M.bin BinOp.mul FloatKind.f32 a0_2 a1_2))
def S_spec_l02Dot (M : FOps) : FSpec := fun _ args => match args with
  | [.agg [.fl .f32 a0_0, .fl .f32 a0_1, .fl .f32 a0_2], .agg [.fl .f32 a1_0, .fl .f32 a1_1, .fl .f32 a1_2]] => some (true, F_spec_l02Dot (p_spec_l02Dot M a0_0 a0_1 a0_2 a1_0 a1_1 a1_2), [])
  | _ => none


def F_impl_cross (r : Nat × Nat × Nat) : CV := .one (.agg [.fl .f32 r.1, .fl .f32 r.2.1, .fl .f32 r.2.2])
def p_impl_cross (M : FOps) (a0_0 : Nat) (a0_1 : Nat) (a0_2 : Nat) (a1_0 : Nat) (a1_1 : Nat) (a1_2 : Nat) : Nat × Nat × Nat :=
  (M.bin BinOp.sub FloatKind.f32 (M.bin BinOp.mul FloatKind.f32 a0_1 a1_2) (M.bin BinOp.mul FloatKind.f32 a0_2 a1_1), M.bin BinOp.sub FloatKind.f32 (M.bin BinOp.mul FloatKind.f32 a0_2 a1_0) (M.bin BinOp.mul FloatKind.f32 a0_0 a1_2), M.bin BinOp.sub FloatKind.f32 (M.bin BinOp.mul FloatKind.f32 a0_0 a1_1) (M.bin BinOp.mul FloatKind.f32 a0_1 a1_0))
def S_impl_cross (M : FOps) : FSpec := fun _ args => match args with
  | [.agg [.fl .f32 a0_0, .fl .f32 a0_1, .fl .f32 a0_2], .agg [.fl .f32 a1_0, .fl .f32 a1_1, .fl .f32 a1_2]] => some (true, F_impl_cross (p_impl_cross M a0_0 a0_1 a0_2 a1_0 a1_1 a1_2), [])
  | _ => none


def F_spec_l02Cross (r : Nat × Nat × Nat) : CV := .one (.agg [.fl .f32 r.1, .fl .f32 r.2.1, .fl .f32 r.2.2])
def p_spec_l02Cross (M : FOps) (a0_0 : Nat) (a0_1 : Nat) (a0_2 : Nat) (a1_0 : Nat) (a1_1 : Nat) (a1_2 : Nat) : Nat × Nat × Nat :=
  (M.bin BinOp.sub FloatKind.f32 (M.bin BinOp.mul FloatKind.f32 a0_1 a1_2) (M.bin BinOp.mul FloatKind.f32 a0_2 a1_1), M.bin BinOp.sub FloatKind.f32 (M.bin BinOp.mul FloatKind.f32 a0_2 a1_0) (M.bin BinOp.mul FloatKind.f32 a0_0 a1_2), M.bin BinOp.sub FloatKind.f32 (M.bin BinOp.mul FloatKind.f32 a0_0 a1_1) (M.bin BinOp.mul FloatKind.f32 a0_1 a1_0))
def S_spec_l02Cross (M : FOps) : FSpec := fun _ args => match args with
  | [.agg [.fl .f32 a0_0, .fl .f32 a0_1, .fl .f32 a0_2], .agg [.fl .f32 a1_0, .fl .f32 a1_1, .fl .f32 a1_2]] => some (true, F_spec_l02Cross (p_spec_l02Cross M a0_0 a0_1 a0_2 a1_0 a1_1 a1_2), [])
  | _ => none


def F_impl_plusWays (r : Nat × Nat × Nat) : CV := .one (.agg [.fl .f32 r.1, .fl .f32 r.2.1, .fl .f32 r.2.2])
def p_impl_plusWays (M : FOps) (a0_0 : Nat) (a0_1 : Nat) (a0_2 : Nat) (a1_0 : Nat) (a1_1 : Nat) (a1_2 : Nat) : Nat × Nat × Nat :=
  (M.bin BinOp.add FloatKind.f32 a0_0 a1_0, M.bin BinOp.add FloatKind.f32 a0_1 a1_1, M.bin BinOp.add FloatKind.f32 a0_2 a1_2)
def S_impl_plusWays (M : FOps) : FSpec := fun _ args => match args with
  | [.agg [.fl .f32 a0_0, .fl .f32 a0_1, .fl .f32 a0_2], .agg [.fl .f32 a1_0, .fl .f32 a1_1, .fl .f32 a1_2]] => some (true, F_impl_plusWays (p_impl_plusWays M a0_0 a0_1 a0_2 a1_0 a1_1 a1_2), [])
  | _ => none


def F_spec_l02Add (r : Nat × Nat × Nat) : CV := .one (.agg [.fl .f32 r.1, .fl .f32 r.2.1, .fl .f32 r.2.2])
def p_spec_l02Add (M : FOps) (a0_0 : Nat) (a0_1 : Nat) (a0_2 : Nat) (a1_0 : Nat) (a1_1 : Nat) (a1_2 : Nat) : Nat × Nat × Nat :=
  (M.bin BinOp.add FloatKind.f32 a0_0 a1_0, M.bin BinOp.add FloatKind.f32 a0_1 a1_1, M.bin BinOp.add FloatKind.f32 a0_2 a1_2)
def S_spec_l02Add (M : FOps) : FSpec := fun _ args => match args with
  | [.agg [.fl .f32 a0_0, .fl .f32 a0_1, .fl .f32 a0_2], .agg [.fl .f32 a1_0, .fl .f32 a1_1, .fl .f32 a1_2]] => some (true, F_spec_l02Add (p_spec_l02Add M a0_0 a0_1 a0_2 a1_0 a1_1 a1_2), [])
  | _ => none


def F_impl_sumOf (r : Nat × Nat × Nat) : CV := .one (.agg [.fl .f32 r.1, .fl .f32 r.2.1, .fl .f32 r.2.2])
def p_impl_sumOf (M : FOps) (a0_0 : Nat) (a0_1 : Nat) (a0_2 : Nat) (a1 : Nat) (a2_0 : Nat) (a2_1 : Nat) (a2_2 : Nat) (a3 : Nat) : Nat × Nat × Nat :=
  (M.bin BinOp.add FloatKind.f32 (M.bin BinOp.mul FloatKind.f32 a0_0 a1) (M.bin BinOp.mul FloatKind.f32 a2_0 a3), M.bin BinOp.add FloatKind.f32 (M.bin BinOp.mul FloatKind.f32 a0_1 a1) (M.bin BinOp.mul FloatKind.f32 a2_1 a3), M.bin BinOp.add FloatKind.f32 (M.bin BinOp.mul FloatKind.f32 a0_2 a1) (M.bin BinOp.mul FloatKind.f32 a2_2 a3))
def S_impl_sumOf (M : FOps) : FSpec := fun _ args => match args with
  | [.agg [.fl .f32 a0_0, .fl .f32 a0_1, .fl .f32 a0_2], .s (.fl .f32 a1), .agg [.fl .f32 a2_0, .fl .f32 a2_1, .fl .f32 a2_2], .s (.fl .f32 a3)] => some (true, F_impl_sumOf (p_impl_sumOf M a0_0 a0_1 a0_2 a1 a2_0 a2_1 a2_2 a3), [])
  | _ => none


def F_spec_l02Times (r : Nat × Nat × Nat) : CV := .one (.agg [.fl .f32 r.1, .fl .f32 r.2.1, .fl .f32 r.2.2])
def p_spec_l02Times (M : FOps) (a0_0 : Nat) (a0_1 : Nat) (a0_2 : Nat) (a1 : Nat) : Nat × Nat × Nat :=
  (M.bin BinOp.mul FloatKind.f32 a0_0 a1, M.bin BinOp.mul FloatKind.f32 a0_1 a1, M.bin BinOp.mul FloatKind.f32 a0_2 a1)
def S_spec_l02Times (M : FOps) : FSpec := fun _ args => match args with
  | [.agg [.fl .f32 a0_0, .fl .f32 a0_1, .fl .f32 a0_2], .s (.fl .f32 a1)] => some (true, F_spec_l02Times (p_spec_l02Times M a0_0 a0_1 a0_2 a1), [])
  | _ => none


def F_impl_Way_long (r : Nat) : CV := .one (.s (.fl .f32 r))
def p_impl_Way_long (M : FOps) (a0_0 : Nat) (a0_1 : Nat) (a0_2 : Nat) : Nat :=
  (p_impl_RootNumber M (p_impl_dotOf M a0_0 a0_1 a0_2 a0_0 a0_1 a0_2))
def S_impl_Way_long (M : FOps) : FSpec := fun _ args => match args with
  | [.agg [.fl .f32 a0_0, .fl .f32 a0_1, .fl .f32 a0_2]] => some (true, F_impl_Way_long (p_impl_Way_long M a0_0 a0_1 a0_2), [])
  | _ => none


def F_spec_l02Long (r : Nat) : CV := .one (.s (.fl .f32 r))
def p_spec_l02Long (M : FOps) (a0_0 : Nat) (a0_1 : Nat) (a0_2 : Nat) : Nat :=
  (p_spec_l01Sqrt M (p_spec_l02Dot M a0_0 a0_1 a0_2 a0_0 a0_1 a0_2))
def S_spec_l02Long (M : FOps) : FSpec := fun _ args => match args with
  | [.agg [.fl .f32 a0_0, .fl .f32 a0_1, .fl .f32 a0_2]] => some (true, F_spec_l02Long (p_spec_l02Long M a0_0 a0_1 a0_2), [])
  | _ => none


def F_laws_sameFloat (r : Bool) : CV := .one (.s (.v (.bool r)))
def p_laws_sameFloat (M : FOps) (a0 : Nat) (a1 : Nat) : Bool :=
  (bif M.cmp BinOp.neq FloatKind.f64 a0 a0 then (bif M.cmp BinOp.neq FloatKind.f64 a0 a0 then (M.cmp BinOp.neq FloatKind.f64 a1 a1) else (false)) else (bif M.cmp BinOp.neq FloatKind.f64 a1 a1 then (bif M.cmp BinOp.neq FloatKind.f64 a0 a0 then (M.cmp BinOp.neq FloatKind.f64 a1 a1) else (false)) else (bif M.cmp BinOp.eql FloatKind.f64 a0 0 then (bif M.cmp BinOp.eql FloatKind.f64 a1 0 then (M.cmp BinOp.gtr FloatKind.f64 (M.bin BinOp.quo FloatKind.f64 4607182418800017408 a0) 0 == M.cmp BinOp.gtr FloatKind.f64 (M.bin BinOp.quo FloatKind.f64 4607182418800017408 a1) 0) else (M.cmp BinOp.eql FloatKind.f64 a0 a1)) else (M.cmp BinOp.eql FloatKind.f64 a0 a1))))
def S_laws_sameFloat (M : FOps) : FSpec := fun _ args => match args with
  | [.s (.fl .f64 a0), .s (.fl .f64 a1)] => some (true, F_laws_sameFloat (p_laws_sameFloat M a0 a1), [])
  | _ => none


def F_laws_eqPlace (r : Bool) : CV := .one (.s (.v (.bool r)))
def p_laws_eqPlace (M : FOps) (a0_0 : Nat) (a0_1 : Nat) (a1_0 : Nat) (a1_1 : Nat) : Bool :=
  (bif !p_laws_sameFloat M (M.wid a0_0) (M.wid a1_0) then (false) else (bif !p_laws_sameFloat M (M.wid a0_1) (M.wid a1_1) then (false) else (true)))
def S_laws_eqPlace (M : FOps) : FSpec := fun _ args => match args with
  | [.agg [.fl .f32 a0_0, .fl .f32 a0_1], .agg [.fl .f32 a1_0, .fl .f32 a1_1]] => some (true, F_laws_eqPlace (p_laws_eqPlace M a0_0 a0_1 a1_0 a1_1), [])
  | _ => none


def F_laws_toPlace (r : Nat × Nat) : CV := .one (.agg [.fl .f32 r.1, .fl .f32 r.2])
def p_laws_toPlace (M : FOps) (a0_0 : Nat) (a0_1 : Nat) : Nat × Nat :=
  (a0_0, a0_1)
def S_laws_toPlace (M : FOps) : FSpec := fun _ args => match args with
  | [.agg [.fl .f32 a0_0, .fl .f32 a0_1]] => some (true, F_laws_toPlace (p_laws_toPlace M a0_0 a0_1), [])
  | _ => none


end Go.Cv
