/- Printed by gen2.py. -/
import Derived.Test.YtbgpobiaaebbeaaGreatWp
set_option linter.unusedVariables false
set_option linter.unusedSimpArgs false

-- GENERATED BELOW (gen.py)
namespace Go.Dv
open Go.Cv
noncomputable section
def c0_spec_l01PowerWide (M : FOps) (a0_0 : Nat) (a0_1 : Nat) : Nat := M.wid a0_0
def c1_spec_l01PowerWide (M : FOps) (a0_0 : Nat) (a0_1 : Nat) : Nat := M.wid a0_1
def F_spec_l01PowerWide (r : Nat) : AS.Ty (.cons (.one (.fl .f64)) .nil) × List CS := ((r, ()), [])
def p_spec_l01PowerWide (M : FOps) (a0_0 : Nat) (a0_1 : Nat) : Nat :=
  M.bin BinOp.add FloatKind.f64 (M.bin BinOp.mul FloatKind.f64 (c0_spec_l01PowerWide M a0_0 a0_1) (c0_spec_l01PowerWide M a0_0 a0_1)) (M.bin BinOp.mul FloatKind.f64 (c1_spec_l01PowerWide M a0_0 a0_1) (c1_spec_l01PowerWide M a0_0 a0_1))
def S_spec_l01PowerWide (M : FOps) : FSpec := mkSpec (.cons (.one (.cx .f32)) .nil) (.cons (.one (.fl .f64)) .nil) (fun _ => true) (fun x => F_spec_l01PowerWide (p_spec_l01PowerWide M x.1.1 x.1.2))

def F_impl_parts (r : Nat × Nat) : AS.Ty (.cons (.one (.fl .f64)) (.cons (.one (.fl .f64)) .nil)) × List CS := ((r.1, (r.2, ())), [])
def p_impl_parts (M : FOps) (a0_0 : Nat) (a0_1 : Nat) : Nat × Nat :=
  (M.wid a0_0, M.wid a0_1)
def S_impl_parts (M : FOps) : FSpec := mkSpec (.cons (.one (.cx .f32)) .nil) (.cons (.one (.fl .f64)) (.cons (.one (.fl .f64)) .nil)) (fun _ => true) (fun x => F_impl_parts (p_impl_parts M x.1.1 x.1.2))

def c0_impl_power (M : FOps) (a0_0 : Nat) (a0_1 : Nat) : Nat × Nat := p_impl_parts M a0_0 a0_1
def F_impl_power (r : Nat) : AS.Ty (.cons (.one (.fl .f64)) .nil) × List CS := ((r, ()), [])
def p_impl_power (M : FOps) (a0_0 : Nat) (a0_1 : Nat) : Nat :=
  M.bin BinOp.add FloatKind.f64 (M.bin BinOp.mul FloatKind.f64 (c0_impl_power M a0_0 a0_1).fst (c0_impl_power M a0_0 a0_1).fst) (M.bin BinOp.mul FloatKind.f64 (c0_impl_power M a0_0 a0_1).snd (c0_impl_power M a0_0 a0_1).snd)
def S_impl_power (M : FOps) : FSpec := mkSpec (.cons (.one (.cx .f32)) .nil) (.cons (.one (.fl .f64)) .nil) (fun _ => true) (fun x => F_impl_power (p_impl_power M x.1.1 x.1.2))

def c0_spec_l01Long (M : FOps) (a0_0 : Nat) (a0_1 : Nat) : Nat := p_math_Sqrt M (p_spec_l01PowerWide M a0_0 a0_1)
def F_spec_l01Long (r : Nat) : AS.Ty (.cons (.one (.fl .f32)) .nil) × List CS := ((r, ()), [])
def p_spec_l01Long (M : FOps) (a0_0 : Nat) (a0_1 : Nat) : Nat :=
  p_spec_l01Narrow M (c0_spec_l01Long M a0_0 a0_1)
def r_spec_l01Long (M : FOps) (a0_0 : Nat) (a0_1 : Nat) : Bool :=
  ((r_spec_l01Narrow M (c0_spec_l01Long M a0_0 a0_1)) && true)
def S_spec_l01Long (M : FOps) : FSpec := mkSpec (.cons (.one (.cx .f32)) .nil) (.cons (.one (.fl .f32)) .nil) (fun x => r_spec_l01Long M x.1.1 x.1.2) (fun x => F_spec_l01Long (p_spec_l01Long M x.1.1 x.1.2))

def c0_impl_LongOf (M : FOps) (a0_0 : Nat) (a0_1 : Nat) : Nat := p_math_Sqrt M (p_impl_power M a0_0 a0_1)
def F_impl_LongOf (r : Nat) : AS.Ty (.cons (.one (.fl .f32)) .nil) × List CS := ((r, ()), [])
def p_impl_LongOf (M : FOps) (a0_0 : Nat) (a0_1 : Nat) : Nat :=
  M.nar (c0_impl_LongOf M a0_0 a0_1)
def r_impl_LongOf (M : FOps) (a0_0 : Nat) (a0_1 : Nat) : Bool :=
  ((M.narOk (c0_impl_LongOf M a0_0 a0_1)) && true)
def S_impl_LongOf (M : FOps) : FSpec := mkSpec (.cons (.one (.cx .f32)) .nil) (.cons (.one (.fl .f32)) .nil) (fun x => r_impl_LongOf M x.1.1 x.1.2) (fun x => F_impl_LongOf (p_impl_LongOf M x.1.1 x.1.2))

def F_spec_l01Wide (r : Nat × Nat) : AS.Ty (.cons (.one (.cx .f64)) .nil) × List CS := (((r.1, r.2), ()), [])
def p_spec_l01Wide (M : FOps) (a0_0 : Nat) (a0_1 : Nat) : Nat × Nat :=
  (M.wid a0_0, M.wid a0_1)
def S_spec_l01Wide (M : FOps) : FSpec := mkSpec (.cons (.one (.cx .f32)) .nil) (.cons (.one (.cx .f64)) .nil) (fun _ => true) (fun x => F_spec_l01Wide (p_spec_l01Wide M x.1.1 x.1.2))

def F_spec_l01WideMul (r : Nat × Nat) : AS.Ty (.cons (.one (.cx .f64)) .nil) × List CS := (((r.1, r.2), ()), [])
def p_spec_l01WideMul (M : FOps) (a0_0 : Nat) (a0_1 : Nat) (a1_0 : Nat) (a1_1 : Nat) : Nat × Nat :=
  (M.bin BinOp.sub FloatKind.f64 (M.bin BinOp.mul FloatKind.f64 a0_0 a1_0) (M.bin BinOp.mul FloatKind.f64 a0_1 a1_1), M.bin BinOp.add FloatKind.f64 (M.bin BinOp.mul FloatKind.f64 a0_0 a1_1) (M.bin BinOp.mul FloatKind.f64 a0_1 a1_0))
def S_spec_l01WideMul (M : FOps) : FSpec := mkSpec (.cons (.one (.cx .f64)) (.cons (.one (.cx .f64)) .nil)) (.cons (.one (.cx .f64)) .nil) (fun _ => true) (fun x => F_spec_l01WideMul (p_spec_l01WideMul M x.1.1 x.1.2 x.2.1.1 x.2.1.2))

def F_spec_l01CNarrow (r : Nat × Nat) : AS.Ty (.cons (.one (.cx .f32)) .nil) × List CS := (((r.1, r.2), ()), [])
def p_spec_l01CNarrow (M : FOps) (a0_0 : Nat) (a0_1 : Nat) : Nat × Nat :=
  (p_spec_l01Narrow M a0_0, p_spec_l01Narrow M a0_1)
def r_spec_l01CNarrow (M : FOps) (a0_0 : Nat) (a0_1 : Nat) : Bool :=
  ((r_spec_l01Narrow M a0_0) && ((r_spec_l01Narrow M a0_1) && true))
def S_spec_l01CNarrow (M : FOps) : FSpec := mkSpec (.cons (.one (.cx .f64)) .nil) (.cons (.one (.cx .f32)) .nil) (fun x => r_spec_l01CNarrow M x.1.1 x.1.2) (fun x => F_spec_l01CNarrow (p_spec_l01CNarrow M x.1.1 x.1.2))

def c0_spec_l01Mul (M : FOps) (a0_0 : Nat) (a0_1 : Nat) (a1_0 : Nat) (a1_1 : Nat) : Nat × Nat := p_spec_l01Wide M a0_0 a0_1
def c1_spec_l01Mul (M : FOps) (a0_0 : Nat) (a0_1 : Nat) (a1_0 : Nat) (a1_1 : Nat) : Nat × Nat := p_spec_l01Wide M a1_0 a1_1
def c2_spec_l01Mul (M : FOps) (a0_0 : Nat) (a0_1 : Nat) (a1_0 : Nat) (a1_1 : Nat) : Nat × Nat := p_spec_l01WideMul M (c0_spec_l01Mul M a0_0 a0_1 a1_0 a1_1).fst (c0_spec_l01Mul M a0_0 a0_1 a1_0 a1_1).snd (c1_spec_l01Mul M a0_0 a0_1 a1_0 a1_1).fst (c1_spec_l01Mul M a0_0 a0_1 a1_0 a1_1).snd
def c3_spec_l01Mul (M : FOps) (a0_0 : Nat) (a0_1 : Nat) (a1_0 : Nat) (a1_1 : Nat) : Nat × Nat := p_spec_l01CNarrow M (c2_spec_l01Mul M a0_0 a0_1 a1_0 a1_1).fst (c2_spec_l01Mul M a0_0 a0_1 a1_0 a1_1).snd
def F_spec_l01Mul (r : Nat × Nat) : AS.Ty (.cons (.one (.cx .f32)) .nil) × List CS := (((r.1, r.2), ()), [])
def p_spec_l01Mul (M : FOps) (a0_0 : Nat) (a0_1 : Nat) (a1_0 : Nat) (a1_1 : Nat) : Nat × Nat :=
  ((c3_spec_l01Mul M a0_0 a0_1 a1_0 a1_1).fst, (c3_spec_l01Mul M a0_0 a0_1 a1_0 a1_1).snd)
def r_spec_l01Mul (M : FOps) (a0_0 : Nat) (a0_1 : Nat) (a1_0 : Nat) (a1_1 : Nat) : Bool :=
  ((r_spec_l01CNarrow M (c2_spec_l01Mul M a0_0 a0_1 a1_0 a1_1).fst (c2_spec_l01Mul M a0_0 a0_1 a1_0 a1_1).snd) && true)
def S_spec_l01Mul (M : FOps) : FSpec := mkSpec (.cons (.one (.cx .f32)) (.cons (.one (.cx .f32)) .nil)) (.cons (.one (.cx .f32)) .nil) (fun x => r_spec_l01Mul M x.1.1 x.1.2 x.2.1.1 x.2.1.2) (fun x => F_spec_l01Mul (p_spec_l01Mul M x.1.1 x.1.2 x.2.1.1 x.2.1.2))

def c0_impl_product (M : FOps) (a0_0 : Nat) (a0_1 : Nat) (a1_0 : Nat) (a1_1 : Nat) : Nat × Nat := p_impl_parts M a0_0 a0_1
def c1_impl_product (M : FOps) (a0_0 : Nat) (a0_1 : Nat) (a1_0 : Nat) (a1_1 : Nat) : Nat × Nat := p_impl_parts M a1_0 a1_1
def F_impl_product (r : Nat × Nat) : AS.Ty (.cons (.one (.fl .f64)) (.cons (.one (.fl .f64)) .nil)) × List CS := ((r.1, (r.2, ())), [])
def p_impl_product (M : FOps) (a0_0 : Nat) (a0_1 : Nat) (a1_0 : Nat) (a1_1 : Nat) : Nat × Nat :=
  (M.bin BinOp.sub FloatKind.f64 (M.bin BinOp.mul FloatKind.f64 (c0_impl_product M a0_0 a0_1 a1_0 a1_1).fst (c1_impl_product M a0_0 a0_1 a1_0 a1_1).fst) (M.bin BinOp.mul FloatKind.f64 (c0_impl_product M a0_0 a0_1 a1_0 a1_1).snd (c1_impl_product M a0_0 a0_1 a1_0 a1_1).snd), M.bin BinOp.add FloatKind.f64 (M.bin BinOp.mul FloatKind.f64 (c0_impl_product M a0_0 a0_1 a1_0 a1_1).fst (c1_impl_product M a0_0 a0_1 a1_0 a1_1).snd) (M.bin BinOp.mul FloatKind.f64 (c0_impl_product M a0_0 a0_1 a1_0 a1_1).snd (c1_impl_product M a0_0 a0_1 a1_0 a1_1).fst))
def S_impl_product (M : FOps) : FSpec := mkSpec (.cons (.one (.cx .f32)) (.cons (.one (.cx .f32)) .nil)) (.cons (.one (.fl .f64)) (.cons (.one (.fl .f64)) .nil)) (fun _ => true) (fun x => F_impl_product (p_impl_product M x.1.1 x.1.2 x.2.1.1 x.2.1.2))

def c0_impl_MulComplex (M : FOps) (a0_0 : Nat) (a0_1 : Nat) (a1_0 : Nat) (a1_1 : Nat) : Nat × Nat := p_impl_product M a0_0 a0_1 a1_0 a1_1
def F_impl_MulComplex (r : Nat × Nat) : AS.Ty (.cons (.one (.cx .f32)) .nil) × List CS := (((r.1, r.2), ()), [])
def p_impl_MulComplex (M : FOps) (a0_0 : Nat) (a0_1 : Nat) (a1_0 : Nat) (a1_1 : Nat) : Nat × Nat :=
  (M.nar (c0_impl_MulComplex M a0_0 a0_1 a1_0 a1_1).fst, M.nar (c0_impl_MulComplex M a0_0 a0_1 a1_0 a1_1).snd)
def r_impl_MulComplex (M : FOps) (a0_0 : Nat) (a0_1 : Nat) (a1_0 : Nat) (a1_1 : Nat) : Bool :=
  ((M.narOk (c0_impl_MulComplex M a0_0 a0_1 a1_0 a1_1).fst) && ((M.narOk (c0_impl_MulComplex M a0_0 a0_1 a1_0 a1_1).snd) && true))
def S_impl_MulComplex (M : FOps) : FSpec := mkSpec (.cons (.one (.cx .f32)) (.cons (.one (.cx .f32)) .nil)) (.cons (.one (.cx .f32)) .nil) (fun x => r_impl_MulComplex M x.1.1 x.1.2 x.2.1.1 x.2.1.2) (fun x => F_impl_MulComplex (p_impl_MulComplex M x.1.1 x.1.2 x.2.1.1 x.2.1.2))

def c0_spec_AngleOf (M : FOps) (a0_0 : Nat) (a0_1 : Nat) : Nat := p_spec_l01AngleWide M (M.wid a0_1) (M.wid a0_0)
def F_spec_AngleOf (r : Nat) : AS.Ty (.cons (.one (.fl .f32)) .nil) × List CS := ((r, ()), [])
def p_spec_AngleOf (M : FOps) (a0_0 : Nat) (a0_1 : Nat) : Nat :=
  p_spec_l01Narrow M (c0_spec_AngleOf M a0_0 a0_1)
def r_spec_AngleOf (M : FOps) (a0_0 : Nat) (a0_1 : Nat) : Bool :=
  ((r_spec_l01Narrow M (c0_spec_AngleOf M a0_0 a0_1)) && true)
def S_spec_AngleOf (M : FOps) : FSpec := mkSpec (.cons (.one (.cx .f32)) .nil) (.cons (.one (.fl .f32)) .nil) (fun x => r_spec_AngleOf M x.1.1 x.1.2) (fun x => F_spec_AngleOf (p_spec_AngleOf M x.1.1 x.1.2))

def F_impl_AngleOf (r : Nat) : AS.Ty (.cons (.one (.fl .f32)) .nil) × List CS := ((r, ()), [])
def p_impl_AngleOf (M : FOps) (a0_0 : Nat) (a0_1 : Nat) : Nat :=
  p_impl_AngleTurns M a0_1 a0_0
def S_impl_AngleOf (M : FOps) : FSpec := mkSpec (.cons (.one (.cx .f32)) .nil) (.cons (.one (.fl .f32)) .nil) (fun _ => true) (fun x => F_impl_AngleOf (p_impl_AngleOf M x.1.1 x.1.2))

def c0_spec_l03Axes (M : FOps) (a0_0 : Int) (a0_1 : Nat) (a0_2 : Nat) (a0_3 : Nat) (a1_0 : Nat) (a1_1 : Nat) : Nat × Nat × Nat × Nat × Bool := p_spec_l03Steps M a0_0 a0_1 a0_2 a0_3 a1_0 a1_1
def c1_spec_l03Axes (M : FOps) (a0_0 : Int) (a0_1 : Nat) (a0_2 : Nat) (a0_3 : Nat) (a1_0 : Nat) (a1_1 : Nat) : Nat × Nat := p_spec_l01Mul M (c0_spec_l03Axes M a0_0 a0_1 a0_2 a0_3 a1_0 a1_1).snd.snd.fst (c0_spec_l03Axes M a0_0 a0_1 a0_2 a0_3 a1_0 a1_1).snd.snd.snd.fst 0 1065353216
def c2_spec_l03Axes (M : FOps) (a0_0 : Int) (a0_1 : Nat) (a0_2 : Nat) (a0_3 : Nat) (a1_0 : Nat) (a1_1 : Nat) : Nat × Nat := p_spec_l01Scale M (M.bin BinOp.sub FloatKind.f32 (c0_spec_l03Axes M a0_0 a0_1 a0_2 a0_3 a1_0 a1_1).fst (c1_spec_l03Axes M a0_0 a0_1 a0_2 a0_3 a1_0 a1_1).fst) (M.bin BinOp.sub FloatKind.f32 (c0_spec_l03Axes M a0_0 a0_1 a0_2 a0_3 a1_0 a1_1).snd.fst (c1_spec_l03Axes M a0_0 a0_1 a0_2 a0_3 a1_0 a1_1).snd) 1056964608
def c3_spec_l03Axes (M : FOps) (a0_0 : Int) (a0_1 : Nat) (a0_2 : Nat) (a0_3 : Nat) (a1_0 : Nat) (a1_1 : Nat) : Nat × Nat := p_spec_l01Scale M (M.bin BinOp.add FloatKind.f32 (c0_spec_l03Axes M a0_0 a0_1 a0_2 a0_3 a1_0 a1_1).fst (c1_spec_l03Axes M a0_0 a0_1 a0_2 a0_3 a1_0 a1_1).fst) (M.bin BinOp.add FloatKind.f32 (c0_spec_l03Axes M a0_0 a0_1 a0_2 a0_3 a1_0 a1_1).snd.fst (c1_spec_l03Axes M a0_0 a0_1 a0_2 a0_3 a1_0 a1_1).snd) 1056964608
def c4_spec_l03Axes (M : FOps) (a0_0 : Int) (a0_1 : Nat) (a0_2 : Nat) (a0_3 : Nat) (a1_0 : Nat) (a1_1 : Nat) : Nat := p_spec_l01Long M (c2_spec_l03Axes M a0_0 a0_1 a0_2 a0_3 a1_0 a1_1).fst (c2_spec_l03Axes M a0_0 a0_1 a0_2 a0_3 a1_0 a1_1).snd
def c5_spec_l03Axes (M : FOps) (a0_0 : Int) (a0_1 : Nat) (a0_2 : Nat) (a0_3 : Nat) (a1_0 : Nat) (a1_1 : Nat) : Nat := p_spec_l01Long M (c3_spec_l03Axes M a0_0 a0_1 a0_2 a0_3 a1_0 a1_1).fst (c3_spec_l03Axes M a0_0 a0_1 a0_2 a0_3 a1_0 a1_1).snd
def c6_spec_l03Axes (M : FOps) (a0_0 : Int) (a0_1 : Nat) (a0_2 : Nat) (a0_3 : Nat) (a1_0 : Nat) (a1_1 : Nat) : Nat := M.bin BinOp.add FloatKind.f32 (c4_spec_l03Axes M a0_0 a0_1 a0_2 a0_3 a1_0 a1_1) (c5_spec_l03Axes M a0_0 a0_1 a0_2 a0_3 a1_0 a1_1)
def c7_spec_l03Axes (M : FOps) (a0_0 : Int) (a0_1 : Nat) (a0_2 : Nat) (a0_3 : Nat) (a1_0 : Nat) (a1_1 : Nat) : Nat := M.bin BinOp.mul FloatKind.f32 1056964608 (M.bin BinOp.add FloatKind.f32 (p_spec_AngleOf M (c2_spec_l03Axes M a0_0 a0_1 a0_2 a0_3 a1_0 a1_1).fst (c2_spec_l03Axes M a0_0 a0_1 a0_2 a0_3 a1_0 a1_1).snd) (p_spec_AngleOf M (c3_spec_l03Axes M a0_0 a0_1 a0_2 a0_3 a1_0 a1_1).fst (c3_spec_l03Axes M a0_0 a0_1 a0_2 a0_3 a1_0 a1_1).snd))
def F_spec_l03Axes (r : Nat × Nat × Nat × Bool) : AS.Ty (.cons (.one (.fl .f32)) (.cons (.one (.fl .f32)) (.cons (.one (.fl .f32)) (.cons (.one .bool) .nil)))) × List CS := ((r.1, (r.2.1, (r.2.2.1, (r.2.2.2, ())))), [])
def p_spec_l03Axes (M : FOps) (a0_0 : Int) (a0_1 : Nat) (a0_2 : Nat) (a0_3 : Nat) (a1_0 : Nat) (a1_1 : Nat) : Nat × Nat × Nat × Bool :=
  (bif !(c0_spec_l03Axes M a0_0 a0_1 a0_2 a0_3 a1_0 a1_1).snd.snd.snd.snd then (0, 0, 0, false) else (bif !(M.cmp BinOp.eql FloatKind.f32 (c2_spec_l03Axes M a0_0 a0_1 a0_2 a0_3 a1_0 a1_1).fst 0 && M.cmp BinOp.eql FloatKind.f32 (c2_spec_l03Axes M a0_0 a0_1 a0_2 a0_3 a1_0 a1_1).snd 0) then (bif !(M.cmp BinOp.eql FloatKind.f32 (c3_spec_l03Axes M a0_0 a0_1 a0_2 a0_3 a1_0 a1_1).fst 0 && M.cmp BinOp.eql FloatKind.f32 (c3_spec_l03Axes M a0_0 a0_1 a0_2 a0_3 a1_0 a1_1).snd 0) then (bif !p_spec_l01Finite M (c6_spec_l03Axes M a0_0 a0_1 a0_2 a0_3 a1_0 a1_1) then (0, 0, 0, false) else (bif !p_spec_l01Finite M (c7_spec_l03Axes M a0_0 a0_1 a0_2 a0_3 a1_0 a1_1) then (0, 0, 0, false) else ((c6_spec_l03Axes M a0_0 a0_1 a0_2 a0_3 a1_0 a1_1), p_spec_l02Size M (M.bin BinOp.sub FloatKind.f32 (c4_spec_l03Axes M a0_0 a0_1 a0_2 a0_3 a1_0 a1_1) (c5_spec_l03Axes M a0_0 a0_1 a0_2 a0_3 a1_0 a1_1)), (c7_spec_l03Axes M a0_0 a0_1 a0_2 a0_3 a1_0 a1_1), true))) else (bif !p_spec_l01Finite M (c6_spec_l03Axes M a0_0 a0_1 a0_2 a0_3 a1_0 a1_1) then (0, 0, 0, false) else (bif !p_spec_l01Finite M 0 then (0, 0, 0, false) else ((c6_spec_l03Axes M a0_0 a0_1 a0_2 a0_3 a1_0 a1_1), p_spec_l02Size M (M.bin BinOp.sub FloatKind.f32 (c4_spec_l03Axes M a0_0 a0_1 a0_2 a0_3 a1_0 a1_1) (c5_spec_l03Axes M a0_0 a0_1 a0_2 a0_3 a1_0 a1_1)), 0, true)))) else (bif !p_spec_l01Finite M (c6_spec_l03Axes M a0_0 a0_1 a0_2 a0_3 a1_0 a1_1) then (0, 0, 0, false) else (bif !p_spec_l01Finite M 0 then (0, 0, 0, false) else ((c6_spec_l03Axes M a0_0 a0_1 a0_2 a0_3 a1_0 a1_1), p_spec_l02Size M (M.bin BinOp.sub FloatKind.f32 (c4_spec_l03Axes M a0_0 a0_1 a0_2 a0_3 a1_0 a1_1) (c5_spec_l03Axes M a0_0 a0_1 a0_2 a0_3 a1_0 a1_1)), 0, true)))))
def r_spec_l03Axes (M : FOps) (a0_0 : Int) (a0_1 : Nat) (a0_2 : Nat) (a0_3 : Nat) (a1_0 : Nat) (a1_1 : Nat) : Bool :=
  ((r_spec_l03Steps M a0_0 a0_1 a0_2 a0_3 a1_0 a1_1) && (bif !(c0_spec_l03Axes M a0_0 a0_1 a0_2 a0_3 a1_0 a1_1).snd.snd.snd.snd then true else ((r_spec_l01Mul M (c0_spec_l03Axes M a0_0 a0_1 a0_2 a0_3 a1_0 a1_1).snd.snd.fst (c0_spec_l03Axes M a0_0 a0_1 a0_2 a0_3 a1_0 a1_1).snd.snd.snd.fst 0 1065353216) && ((r_spec_l01Long M (c2_spec_l03Axes M a0_0 a0_1 a0_2 a0_3 a1_0 a1_1).fst (c2_spec_l03Axes M a0_0 a0_1 a0_2 a0_3 a1_0 a1_1).snd) && ((r_spec_l01Long M (c3_spec_l03Axes M a0_0 a0_1 a0_2 a0_3 a1_0 a1_1).fst (c3_spec_l03Axes M a0_0 a0_1 a0_2 a0_3 a1_0 a1_1).snd) && (bif !(M.cmp BinOp.eql FloatKind.f32 (c2_spec_l03Axes M a0_0 a0_1 a0_2 a0_3 a1_0 a1_1).fst 0 && M.cmp BinOp.eql FloatKind.f32 (c2_spec_l03Axes M a0_0 a0_1 a0_2 a0_3 a1_0 a1_1).snd 0) then (bif !(M.cmp BinOp.eql FloatKind.f32 (c3_spec_l03Axes M a0_0 a0_1 a0_2 a0_3 a1_0 a1_1).fst 0 && M.cmp BinOp.eql FloatKind.f32 (c3_spec_l03Axes M a0_0 a0_1 a0_2 a0_3 a1_0 a1_1).snd 0) then ((r_spec_AngleOf M (c2_spec_l03Axes M a0_0 a0_1 a0_2 a0_3 a1_0 a1_1).fst (c2_spec_l03Axes M a0_0 a0_1 a0_2 a0_3 a1_0 a1_1).snd) && ((r_spec_AngleOf M (c3_spec_l03Axes M a0_0 a0_1 a0_2 a0_3 a1_0 a1_1).fst (c3_spec_l03Axes M a0_0 a0_1 a0_2 a0_3 a1_0 a1_1).snd) && true)) else true) else true))))))
def S_spec_l03Axes (M : FOps) : FSpec := mkSpec (.cons (.ptr (.pair (.int .i64) (.pair (.pair (.fl .f32) (.fl .f32)) (.fl .f32)))) (.cons (.agg (.pair (.fl .f32) (.fl .f32))) .nil)) (.cons (.one (.fl .f32)) (.cons (.one (.fl .f32)) (.cons (.one (.fl .f32)) (.cons (.one .bool) .nil)))) (fun x => r_spec_l03Axes M x.1.1 x.1.2.1.1 x.1.2.1.2 x.1.2.2 x.2.1.1 x.2.1.2) (fun x => F_spec_l03Axes (p_spec_l03Axes M x.1.1 x.1.2.1.1 x.1.2.1.2 x.1.2.2 x.2.1.1 x.2.1.2))

def c0_impl_AxesAt (M : FOps) (a0_0 : Int) (a0_1 : Nat) (a0_2 : Nat) (a0_3 : Nat) (a1_0 : Nat) (a1_1 : Nat) : Nat × Nat × Nat × Nat × Bool := p_impl_Map_steps M a0_0 a0_1 a0_2 a0_3 a1_0 a1_1
def c1_impl_AxesAt (M : FOps) (a0_0 : Int) (a0_1 : Nat) (a0_2 : Nat) (a0_3 : Nat) (a1_0 : Nat) (a1_1 : Nat) : Nat × Nat := p_impl_MulComplex M (c0_impl_AxesAt M a0_0 a0_1 a0_2 a0_3 a1_0 a1_1).snd.snd.fst (c0_impl_AxesAt M a0_0 a0_1 a0_2 a0_3 a1_0 a1_1).snd.snd.snd.fst 0 1065353216
def c2_impl_AxesAt (M : FOps) (a0_0 : Int) (a0_1 : Nat) (a0_2 : Nat) (a0_3 : Nat) (a1_0 : Nat) (a1_1 : Nat) : Nat × Nat := p_impl_less M (c0_impl_AxesAt M a0_0 a0_1 a0_2 a0_3 a1_0 a1_1).fst (c0_impl_AxesAt M a0_0 a0_1 a0_2 a0_3 a1_0 a1_1).snd.fst (c1_impl_AxesAt M a0_0 a0_1 a0_2 a0_3 a1_0 a1_1).fst (c1_impl_AxesAt M a0_0 a0_1 a0_2 a0_3 a1_0 a1_1).snd
def c3_impl_AxesAt (M : FOps) (a0_0 : Int) (a0_1 : Nat) (a0_2 : Nat) (a0_3 : Nat) (a1_0 : Nat) (a1_1 : Nat) : Nat × Nat := p_impl_ScaleComplex M (c2_impl_AxesAt M a0_0 a0_1 a0_2 a0_3 a1_0 a1_1).fst (c2_impl_AxesAt M a0_0 a0_1 a0_2 a0_3 a1_0 a1_1).snd 1056964608
def c4_impl_AxesAt (M : FOps) (a0_0 : Int) (a0_1 : Nat) (a0_2 : Nat) (a0_3 : Nat) (a1_0 : Nat) (a1_1 : Nat) : Nat × Nat := p_impl_plus M (c0_impl_AxesAt M a0_0 a0_1 a0_2 a0_3 a1_0 a1_1).fst (c0_impl_AxesAt M a0_0 a0_1 a0_2 a0_3 a1_0 a1_1).snd.fst (c1_impl_AxesAt M a0_0 a0_1 a0_2 a0_3 a1_0 a1_1).fst (c1_impl_AxesAt M a0_0 a0_1 a0_2 a0_3 a1_0 a1_1).snd
def c5_impl_AxesAt (M : FOps) (a0_0 : Int) (a0_1 : Nat) (a0_2 : Nat) (a0_3 : Nat) (a1_0 : Nat) (a1_1 : Nat) : Nat × Nat := p_impl_ScaleComplex M (c4_impl_AxesAt M a0_0 a0_1 a0_2 a0_3 a1_0 a1_1).fst (c4_impl_AxesAt M a0_0 a0_1 a0_2 a0_3 a1_0 a1_1).snd 1056964608
def c6_impl_AxesAt (M : FOps) (a0_0 : Int) (a0_1 : Nat) (a0_2 : Nat) (a0_3 : Nat) (a1_0 : Nat) (a1_1 : Nat) : Nat := p_impl_LongOf M (c3_impl_AxesAt M a0_0 a0_1 a0_2 a0_3 a1_0 a1_1).fst (c3_impl_AxesAt M a0_0 a0_1 a0_2 a0_3 a1_0 a1_1).snd
def c7_impl_AxesAt (M : FOps) (a0_0 : Int) (a0_1 : Nat) (a0_2 : Nat) (a0_3 : Nat) (a1_0 : Nat) (a1_1 : Nat) : Nat := p_impl_LongOf M (c5_impl_AxesAt M a0_0 a0_1 a0_2 a0_3 a1_0 a1_1).fst (c5_impl_AxesAt M a0_0 a0_1 a0_2 a0_3 a1_0 a1_1).snd
def c8_impl_AxesAt (M : FOps) (a0_0 : Int) (a0_1 : Nat) (a0_2 : Nat) (a0_3 : Nat) (a1_0 : Nat) (a1_1 : Nat) : Nat := M.bin BinOp.add FloatKind.f32 (c6_impl_AxesAt M a0_0 a0_1 a0_2 a0_3 a1_0 a1_1) (c7_impl_AxesAt M a0_0 a0_1 a0_2 a0_3 a1_0 a1_1)
def c9_impl_AxesAt (M : FOps) (a0_0 : Int) (a0_1 : Nat) (a0_2 : Nat) (a0_3 : Nat) (a1_0 : Nat) (a1_1 : Nat) : Nat := p_impl_absolute M (M.bin BinOp.sub FloatKind.f32 (c6_impl_AxesAt M a0_0 a0_1 a0_2 a0_3 a1_0 a1_1) (c7_impl_AxesAt M a0_0 a0_1 a0_2 a0_3 a1_0 a1_1))
def c10_impl_AxesAt (M : FOps) (a0_0 : Int) (a0_1 : Nat) (a0_2 : Nat) (a0_3 : Nat) (a1_0 : Nat) (a1_1 : Nat) : Nat := M.bin BinOp.quo FloatKind.f32 (M.bin BinOp.add FloatKind.f32 (p_impl_AngleOf M (c3_impl_AxesAt M a0_0 a0_1 a0_2 a0_3 a1_0 a1_1).fst (c3_impl_AxesAt M a0_0 a0_1 a0_2 a0_3 a1_0 a1_1).snd) (p_impl_AngleOf M (c5_impl_AxesAt M a0_0 a0_1 a0_2 a0_3 a1_0 a1_1).fst (c5_impl_AxesAt M a0_0 a0_1 a0_2 a0_3 a1_0 a1_1).snd)) 1073741824
def F_impl_AxesAt (r : Nat × Nat × Nat × Bool) : AS.Ty (.cons (.one (.fl .f32)) (.cons (.one (.fl .f32)) (.cons (.one (.fl .f32)) (.cons (.one .bool) .nil)))) × List CS := ((r.1, (r.2.1, (r.2.2.1, (r.2.2.2, ())))), [])
def p_impl_AxesAt (M : FOps) (a0_0 : Int) (a0_1 : Nat) (a0_2 : Nat) (a0_3 : Nat) (a1_0 : Nat) (a1_1 : Nat) : Nat × Nat × Nat × Bool :=
  (bif !(c0_impl_AxesAt M a0_0 a0_1 a0_2 a0_3 a1_0 a1_1).snd.snd.snd.snd then (0, 0, 0, false) else (bif !(M.cmp BinOp.eql FloatKind.f32 (c3_impl_AxesAt M a0_0 a0_1 a0_2 a0_3 a1_0 a1_1).fst 0 && M.cmp BinOp.eql FloatKind.f32 (c3_impl_AxesAt M a0_0 a0_1 a0_2 a0_3 a1_0 a1_1).snd 0) then (bif !(M.cmp BinOp.eql FloatKind.f32 (c5_impl_AxesAt M a0_0 a0_1 a0_2 a0_3 a1_0 a1_1).fst 0 && M.cmp BinOp.eql FloatKind.f32 (c5_impl_AxesAt M a0_0 a0_1 a0_2 a0_3 a1_0 a1_1).snd 0) then (bif !(p_impl_IsFinite M (c8_impl_AxesAt M a0_0 a0_1 a0_2 a0_3 a1_0 a1_1) && (p_impl_IsFinite M (c9_impl_AxesAt M a0_0 a0_1 a0_2 a0_3 a1_0 a1_1) && (p_impl_IsFinite M (c10_impl_AxesAt M a0_0 a0_1 a0_2 a0_3 a1_0 a1_1) && true))) then (0, 0, 0, false) else ((c8_impl_AxesAt M a0_0 a0_1 a0_2 a0_3 a1_0 a1_1), (c9_impl_AxesAt M a0_0 a0_1 a0_2 a0_3 a1_0 a1_1), (c10_impl_AxesAt M a0_0 a0_1 a0_2 a0_3 a1_0 a1_1), true)) else (bif !(p_impl_IsFinite M (c8_impl_AxesAt M a0_0 a0_1 a0_2 a0_3 a1_0 a1_1) && (p_impl_IsFinite M (c9_impl_AxesAt M a0_0 a0_1 a0_2 a0_3 a1_0 a1_1) && (p_impl_IsFinite M 0 && true))) then (0, 0, 0, false) else ((c8_impl_AxesAt M a0_0 a0_1 a0_2 a0_3 a1_0 a1_1), (c9_impl_AxesAt M a0_0 a0_1 a0_2 a0_3 a1_0 a1_1), 0, true))) else (bif !(p_impl_IsFinite M (c8_impl_AxesAt M a0_0 a0_1 a0_2 a0_3 a1_0 a1_1) && (p_impl_IsFinite M (c9_impl_AxesAt M a0_0 a0_1 a0_2 a0_3 a1_0 a1_1) && (p_impl_IsFinite M 0 && true))) then (0, 0, 0, false) else ((c8_impl_AxesAt M a0_0 a0_1 a0_2 a0_3 a1_0 a1_1), (c9_impl_AxesAt M a0_0 a0_1 a0_2 a0_3 a1_0 a1_1), 0, true))))
def r_impl_AxesAt (M : FOps) (a0_0 : Int) (a0_1 : Nat) (a0_2 : Nat) (a0_3 : Nat) (a1_0 : Nat) (a1_1 : Nat) : Bool :=
  ((r_impl_Map_steps M a0_0 a0_1 a0_2 a0_3 a1_0 a1_1) && (bif !(c0_impl_AxesAt M a0_0 a0_1 a0_2 a0_3 a1_0 a1_1).snd.snd.snd.snd then true else ((r_impl_MulComplex M (c0_impl_AxesAt M a0_0 a0_1 a0_2 a0_3 a1_0 a1_1).snd.snd.fst (c0_impl_AxesAt M a0_0 a0_1 a0_2 a0_3 a1_0 a1_1).snd.snd.snd.fst 0 1065353216) && ((r_impl_LongOf M (c3_impl_AxesAt M a0_0 a0_1 a0_2 a0_3 a1_0 a1_1).fst (c3_impl_AxesAt M a0_0 a0_1 a0_2 a0_3 a1_0 a1_1).snd) && ((r_impl_LongOf M (c5_impl_AxesAt M a0_0 a0_1 a0_2 a0_3 a1_0 a1_1).fst (c5_impl_AxesAt M a0_0 a0_1 a0_2 a0_3 a1_0 a1_1).snd) && ((r_impl_LongOf M (c3_impl_AxesAt M a0_0 a0_1 a0_2 a0_3 a1_0 a1_1).fst (c3_impl_AxesAt M a0_0 a0_1 a0_2 a0_3 a1_0 a1_1).snd) && ((r_impl_LongOf M (c5_impl_AxesAt M a0_0 a0_1 a0_2 a0_3 a1_0 a1_1).fst (c5_impl_AxesAt M a0_0 a0_1 a0_2 a0_3 a1_0 a1_1).snd) && true)))))))
def S_impl_AxesAt (M : FOps) : FSpec := mkSpec (.cons (.agg (.pair (.int .i64) (.pair (.pair (.fl .f32) (.fl .f32)) (.fl .f32)))) (.cons (.agg (.pair (.fl .f32) (.fl .f32))) .nil)) (.cons (.one (.fl .f32)) (.cons (.one (.fl .f32)) (.cons (.one (.fl .f32)) (.cons (.one .bool) .nil)))) (fun x => r_impl_AxesAt M x.1.1 x.1.2.1.1 x.1.2.1.2 x.1.2.2 x.2.1.1 x.2.1.2) (fun x => F_impl_AxesAt (p_impl_AxesAt M x.1.1 x.1.2.1.1 x.1.2.1.2 x.1.2.2 x.2.1.1 x.2.1.2))

end
end Go.Dv
