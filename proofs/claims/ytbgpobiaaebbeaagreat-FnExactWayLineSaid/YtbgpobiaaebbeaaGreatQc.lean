/- Printed by gen2.py. -/
import Derived.Test.YtbgpobiaaebbeaaGreatQb
set_option linter.unusedVariables false
set_option linter.unusedSimpArgs false

-- GENERATED BELOW (gen.py)
namespace Go.Dv
open Go.Cv
noncomputable section
def c0_impl_SineTurns (M : FOps) (a0 : Nat) : Nat := M.wid a0
def c1_impl_SineTurns (M : FOps) (a0 : Nat) : Nat := p_math_NaN M
def c2_impl_SineTurns (M : FOps) (a0 : Nat) : Nat := p_impl_sine M (c0_impl_SineTurns M a0)
def F_impl_SineTurns (r : Nat) : AS.Ty (.cons (.one (.fl .f32)) .nil) × List CS := ((r, ()), [])
def p_impl_SineTurns (M : FOps) (a0 : Nat) : Nat :=
  (bif !p_impl_isFinite M (c0_impl_SineTurns M a0) then M.nar (c1_impl_SineTurns M a0) else (bif M.cmp BinOp.geq FloatKind.f64 (M.abs (c0_impl_SineTurns M a0)) 4841369599423283200 then 0 else M.nar (c2_impl_SineTurns M a0)))
def r_impl_SineTurns (M : FOps) (a0 : Nat) : Bool :=
  (bif !p_impl_isFinite M (c0_impl_SineTurns M a0) then ((M.narOk (c1_impl_SineTurns M a0)) && true) else (bif M.cmp BinOp.geq FloatKind.f64 (M.abs (c0_impl_SineTurns M a0)) 4841369599423283200 then true else ((M.narOk (c2_impl_SineTurns M a0)) && true)))
def S_impl_SineTurns (M : FOps) : FSpec := mkSpec (.cons (.one (.fl .f32)) .nil) (.cons (.one (.fl .f32)) .nil) (fun _ => true) (fun x => F_impl_SineTurns (p_impl_SineTurns M x.1))

def F_impl_cosine (r : Nat) : AS.Ty (.cons (.one (.fl .f32)) .nil) × List CS := ((r, ()), [])
def p_impl_cosine (M : FOps) (a0 : Nat) : Nat :=
  p_impl_SineTurns M (M.bin BinOp.add FloatKind.f32 a0 1048576000)
def S_impl_cosine (M : FOps) : FSpec := mkSpec (.cons (.one (.fl .f32)) .nil) (.cons (.one (.fl .f32)) .nil) (fun _ => true) (fun x => F_impl_cosine (p_impl_cosine M x.1))

def c0_spec_l01Sine (M : FOps) (a0 : Nat) : Nat := p_spec_l01SineWide M (M.wid a0)
def F_spec_l01Sine (r : Nat) : AS.Ty (.cons (.one (.fl .f32)) .nil) × List CS := ((r, ()), [])
def p_spec_l01Sine (M : FOps) (a0 : Nat) : Nat :=
  p_spec_l01Narrow M (c0_spec_l01Sine M a0)
def r_spec_l01Sine (M : FOps) (a0 : Nat) : Bool :=
  ((r_spec_l01Narrow M (c0_spec_l01Sine M a0)) && true)
def S_spec_l01Sine (M : FOps) : FSpec := mkSpec (.cons (.one (.fl .f32)) .nil) (.cons (.one (.fl .f32)) .nil) (fun _ => true) (fun x => F_spec_l01Sine (p_spec_l01Sine M x.1))

def F_spec_l02Cosine (r : Nat) : AS.Ty (.cons (.one (.fl .f32)) .nil) × List CS := ((r, ()), [])
def p_spec_l02Cosine (M : FOps) (a0 : Nat) : Nat :=
  p_spec_l01Sine M (M.bin BinOp.add FloatKind.f32 a0 1048576000)
def S_spec_l02Cosine (M : FOps) : FSpec := mkSpec (.cons (.one (.fl .f32)) .nil) (.cons (.one (.fl .f32)) .nil) (fun _ => true) (fun x => F_spec_l02Cosine (p_spec_l02Cosine M x.1))

def c0_spec_l01Angle (M : FOps) (a0 : Nat) (a1 : Nat) : Nat := p_spec_l01AngleWide M (M.wid a0) (M.wid a1)
def F_spec_l01Angle (r : Nat) : AS.Ty (.cons (.one (.fl .f32)) .nil) × List CS := ((r, ()), [])
def p_spec_l01Angle (M : FOps) (a0 : Nat) (a1 : Nat) : Nat :=
  p_spec_l01Narrow M (c0_spec_l01Angle M a0 a1)
def r_spec_l01Angle (M : FOps) (a0 : Nat) (a1 : Nat) : Bool :=
  ((r_spec_l01Narrow M (c0_spec_l01Angle M a0 a1)) && true)
def S_spec_l01Angle (M : FOps) : FSpec := mkSpec (.cons (.one (.fl .f32)) (.cons (.one (.fl .f32)) .nil)) (.cons (.one (.fl .f32)) .nil) (fun _ => true) (fun x => F_spec_l01Angle (p_spec_l01Angle M x.1 x.2.1))

def F_impl_Place_way (r : Nat × Nat × Nat) : AS.Ty (.cons (.agg (.pair (.fl .f32) (.pair (.fl .f32) (.fl .f32)))) .nil) × List CS := (((r.1, (r.2.1, r.2.2)), ()), [])
def p_impl_Place_way (M : FOps) (a0_0 : Nat) (a0_1 : Nat) : Nat × Nat × Nat :=
  (M.bin BinOp.mul FloatKind.f32 (p_impl_cosine M a0_0) (p_impl_cosine M a0_1), M.bin BinOp.mul FloatKind.f32 (p_impl_cosine M a0_0) (p_impl_SineTurns M a0_1), p_impl_SineTurns M a0_0)
def S_impl_Place_way (M : FOps) : FSpec := mkSpec (.cons (.agg (.pair (.fl .f32) (.fl .f32))) .nil) (.cons (.agg (.pair (.fl .f32) (.pair (.fl .f32) (.fl .f32)))) .nil) (fun _ => true) (fun x => F_impl_Place_way (p_impl_Place_way M x.1.1 x.1.2))

def F_spec_l02Way (r : Nat × Nat × Nat) : AS.Ty (.cons (.agg (.pair (.fl .f32) (.pair (.fl .f32) (.fl .f32)))) .nil) × List CS := (((r.1, (r.2.1, r.2.2)), ()), [])
def p_spec_l02Way (M : FOps) (a0_0 : Nat) (a0_1 : Nat) : Nat × Nat × Nat :=
  (M.bin BinOp.mul FloatKind.f32 (p_spec_l02Cosine M a0_0) (p_spec_l02Cosine M a0_1), M.bin BinOp.mul FloatKind.f32 (p_spec_l02Cosine M a0_0) (p_spec_l01Sine M a0_1), p_spec_l01Sine M a0_0)
def S_spec_l02Way (M : FOps) : FSpec := mkSpec (.cons (.agg (.pair (.fl .f32) (.fl .f32))) .nil) (.cons (.agg (.pair (.fl .f32) (.pair (.fl .f32) (.fl .f32)))) .nil) (fun _ => true) (fun x => F_spec_l02Way (p_spec_l02Way M x.1.1 x.1.2))

def c0_impl_apart (M : FOps) (a0_0 : Nat) (a0_1 : Nat) (a1_0 : Nat) (a1_1 : Nat) : Nat × Nat × Nat := p_impl_Place_way M a0_0 a0_1
def c1_impl_apart (M : FOps) (a0_0 : Nat) (a0_1 : Nat) (a1_0 : Nat) (a1_1 : Nat) : Nat × Nat × Nat := p_impl_Place_way M a1_0 a1_1
def c2_impl_apart (M : FOps) (a0_0 : Nat) (a0_1 : Nat) (a1_0 : Nat) (a1_1 : Nat) : Nat × Nat × Nat := p_impl_cross M (c0_impl_apart M a0_0 a0_1 a1_0 a1_1).fst (c0_impl_apart M a0_0 a0_1 a1_0 a1_1).snd.fst (c0_impl_apart M a0_0 a0_1 a1_0 a1_1).snd.snd (c1_impl_apart M a0_0 a0_1 a1_0 a1_1).fst (c1_impl_apart M a0_0 a0_1 a1_0 a1_1).snd.fst (c1_impl_apart M a0_0 a0_1 a1_0 a1_1).snd.snd
def F_impl_apart (r : Nat) : AS.Ty (.cons (.one (.fl .f32)) .nil) × List CS := ((r, ()), [])
def p_impl_apart (M : FOps) (a0_0 : Nat) (a0_1 : Nat) (a1_0 : Nat) (a1_1 : Nat) : Nat :=
  p_impl_AngleTurns M (p_impl_Way_long M (c2_impl_apart M a0_0 a0_1 a1_0 a1_1).fst (c2_impl_apart M a0_0 a0_1 a1_0 a1_1).snd.fst (c2_impl_apart M a0_0 a0_1 a1_0 a1_1).snd.snd) (p_impl_dotOf M (c0_impl_apart M a0_0 a0_1 a1_0 a1_1).fst (c0_impl_apart M a0_0 a0_1 a1_0 a1_1).snd.fst (c0_impl_apart M a0_0 a0_1 a1_0 a1_1).snd.snd (c1_impl_apart M a0_0 a0_1 a1_0 a1_1).fst (c1_impl_apart M a0_0 a0_1 a1_0 a1_1).snd.fst (c1_impl_apart M a0_0 a0_1 a1_0 a1_1).snd.snd)
def S_impl_apart (M : FOps) : FSpec := mkSpec (.cons (.agg (.pair (.fl .f32) (.fl .f32))) (.cons (.agg (.pair (.fl .f32) (.fl .f32))) .nil)) (.cons (.one (.fl .f32)) .nil) (fun _ => true) (fun x => F_impl_apart (p_impl_apart M x.1.1 x.1.2 x.2.1.1 x.2.1.2))

def c0_spec_l02Apart (M : FOps) (a0_0 : Nat) (a0_1 : Nat) (a1_0 : Nat) (a1_1 : Nat) : Nat × Nat × Nat := p_spec_l02Way M a0_0 a0_1
def c1_spec_l02Apart (M : FOps) (a0_0 : Nat) (a0_1 : Nat) (a1_0 : Nat) (a1_1 : Nat) : Nat × Nat × Nat := p_spec_l02Way M a1_0 a1_1
def c2_spec_l02Apart (M : FOps) (a0_0 : Nat) (a0_1 : Nat) (a1_0 : Nat) (a1_1 : Nat) : Nat × Nat × Nat := p_spec_l02Cross M (c0_spec_l02Apart M a0_0 a0_1 a1_0 a1_1).fst (c0_spec_l02Apart M a0_0 a0_1 a1_0 a1_1).snd.fst (c0_spec_l02Apart M a0_0 a0_1 a1_0 a1_1).snd.snd (c1_spec_l02Apart M a0_0 a0_1 a1_0 a1_1).fst (c1_spec_l02Apart M a0_0 a0_1 a1_0 a1_1).snd.fst (c1_spec_l02Apart M a0_0 a0_1 a1_0 a1_1).snd.snd
def F_spec_l02Apart (r : Nat) : AS.Ty (.cons (.one (.fl .f32)) .nil) × List CS := ((r, ()), [])
def p_spec_l02Apart (M : FOps) (a0_0 : Nat) (a0_1 : Nat) (a1_0 : Nat) (a1_1 : Nat) : Nat :=
  p_spec_l01Angle M (p_spec_l02Long M (c2_spec_l02Apart M a0_0 a0_1 a1_0 a1_1).fst (c2_spec_l02Apart M a0_0 a0_1 a1_0 a1_1).snd.fst (c2_spec_l02Apart M a0_0 a0_1 a1_0 a1_1).snd.snd) (p_spec_l02Dot M (c0_spec_l02Apart M a0_0 a0_1 a1_0 a1_1).fst (c0_spec_l02Apart M a0_0 a0_1 a1_0 a1_1).snd.fst (c0_spec_l02Apart M a0_0 a0_1 a1_0 a1_1).snd.snd (c1_spec_l02Apart M a0_0 a0_1 a1_0 a1_1).fst (c1_spec_l02Apart M a0_0 a0_1 a1_0 a1_1).snd.fst (c1_spec_l02Apart M a0_0 a0_1 a1_0 a1_1).snd.snd)
def S_spec_l02Apart (M : FOps) : FSpec := mkSpec (.cons (.agg (.pair (.fl .f32) (.fl .f32))) (.cons (.agg (.pair (.fl .f32) (.fl .f32))) .nil)) (.cons (.one (.fl .f32)) .nil) (fun _ => true) (fun x => F_spec_l02Apart (p_spec_l02Apart M x.1.1 x.1.2 x.2.1.1 x.2.1.2))

def c0_impl_course (M : FOps) (a0_0 : Nat) (a0_1 : Nat) (a1_0 : Nat) (a1_1 : Nat) : Nat := M.bin BinOp.sub FloatKind.f32 a1_1 a0_1
def c1_impl_course (M : FOps) (a0_0 : Nat) (a0_1 : Nat) (a1_0 : Nat) (a1_1 : Nat) : Nat := p_impl_cosine M a1_0
def F_impl_course (r : Nat) : AS.Ty (.cons (.one (.fl .f32)) .nil) × List CS := ((r, ()), [])
def p_impl_course (M : FOps) (a0_0 : Nat) (a0_1 : Nat) (a1_0 : Nat) (a1_1 : Nat) : Nat :=
  p_impl_positive M (p_impl_AngleTurns M (M.bin BinOp.mul FloatKind.f32 (p_impl_SineTurns M (c0_impl_course M a0_0 a0_1 a1_0 a1_1)) (c1_impl_course M a0_0 a0_1 a1_0 a1_1)) (M.bin BinOp.sub FloatKind.f32 (M.bin BinOp.mul FloatKind.f32 (p_impl_cosine M a0_0) (p_impl_SineTurns M a1_0)) (M.bin BinOp.mul FloatKind.f32 (M.bin BinOp.mul FloatKind.f32 (p_impl_SineTurns M a0_0) (c1_impl_course M a0_0 a0_1 a1_0 a1_1)) (p_impl_cosine M (c0_impl_course M a0_0 a0_1 a1_0 a1_1)))))
def S_impl_course (M : FOps) : FSpec := mkSpec (.cons (.agg (.pair (.fl .f32) (.fl .f32))) (.cons (.agg (.pair (.fl .f32) (.fl .f32))) .nil)) (.cons (.one (.fl .f32)) .nil) (fun _ => true) (fun x => F_impl_course (p_impl_course M x.1.1 x.1.2 x.2.1.1 x.2.1.2))

def c0_spec_l02Course (M : FOps) (a0_0 : Nat) (a0_1 : Nat) (a1_0 : Nat) (a1_1 : Nat) : Nat := M.bin BinOp.sub FloatKind.f32 a1_1 a0_1
def c1_spec_l02Course (M : FOps) (a0_0 : Nat) (a0_1 : Nat) (a1_0 : Nat) (a1_1 : Nat) : Nat := p_spec_l02Cosine M a1_0
def F_spec_l02Course (r : Nat) : AS.Ty (.cons (.one (.fl .f32)) .nil) × List CS := ((r, ()), [])
def p_spec_l02Course (M : FOps) (a0_0 : Nat) (a0_1 : Nat) (a1_0 : Nat) (a1_1 : Nat) : Nat :=
  p_spec_l02Above0 M (p_spec_l01Angle M (M.bin BinOp.mul FloatKind.f32 (p_spec_l01Sine M (c0_spec_l02Course M a0_0 a0_1 a1_0 a1_1)) (c1_spec_l02Course M a0_0 a0_1 a1_0 a1_1)) (M.bin BinOp.sub FloatKind.f32 (M.bin BinOp.mul FloatKind.f32 (p_spec_l02Cosine M a0_0) (p_spec_l01Sine M a1_0)) (M.bin BinOp.mul FloatKind.f32 (M.bin BinOp.mul FloatKind.f32 (p_spec_l01Sine M a0_0) (c1_spec_l02Course M a0_0 a0_1 a1_0 a1_1)) (p_spec_l02Cosine M (c0_spec_l02Course M a0_0 a0_1 a1_0 a1_1)))))
def S_spec_l02Course (M : FOps) : FSpec := mkSpec (.cons (.agg (.pair (.fl .f32) (.fl .f32))) (.cons (.agg (.pair (.fl .f32) (.fl .f32))) .nil)) (.cons (.one (.fl .f32)) .nil) (fun _ => true) (fun x => F_spec_l02Course (p_spec_l02Course M x.1.1 x.1.2 x.2.1.1 x.2.1.2))

def c0_spec_CourseTo (M : FOps) (a0_0 : Nat) (a0_1 : Nat) (a1_0 : Nat) (a1_1 : Nat) : Nat × Bool := p_spec_l02Number M (p_spec_l02Course M a0_0 a0_1 a1_0 a1_1)
def F_spec_CourseTo (r : Nat × Bool) : AS.Ty (.cons (.one (.fl .f32)) (.cons (.one .bool) .nil)) × List CS := ((r.1, (r.2, ())), [])
def p_spec_CourseTo (M : FOps) (a0_0 : Nat) (a0_1 : Nat) (a1_0 : Nat) (a1_1 : Nat) : Nat × Bool :=
  (bif !p_spec_l02Two M a0_0 a0_1 a1_0 a1_1 then (0, false) else ((c0_spec_CourseTo M a0_0 a0_1 a1_0 a1_1).fst, (c0_spec_CourseTo M a0_0 a0_1 a1_0 a1_1).snd))
def S_spec_CourseTo (M : FOps) : FSpec := mkSpec (.cons (.agg (.pair (.fl .f32) (.fl .f32))) (.cons (.agg (.pair (.fl .f32) (.fl .f32))) .nil)) (.cons (.one (.fl .f32)) (.cons (.one .bool) .nil)) (fun _ => true) (fun x => F_spec_CourseTo (p_spec_CourseTo M x.1.1 x.1.2 x.2.1.1 x.2.1.2))

def c0_spec_ApartOf (M : FOps) (a0_0 : Nat) (a0_1 : Nat) (a1_0 : Nat) (a1_1 : Nat) : Nat × Bool := p_spec_l02Number M (p_spec_l02Apart M a0_0 a0_1 a1_0 a1_1)
def F_spec_ApartOf (r : Nat × Bool) : AS.Ty (.cons (.one (.fl .f32)) (.cons (.one .bool) .nil)) × List CS := ((r.1, (r.2, ())), [])
def p_spec_ApartOf (M : FOps) (a0_0 : Nat) (a0_1 : Nat) (a1_0 : Nat) (a1_1 : Nat) : Nat × Bool :=
  (bif !p_spec_l02Two M a0_0 a0_1 a1_0 a1_1 then (0, false) else ((c0_spec_ApartOf M a0_0 a0_1 a1_0 a1_1).fst, (c0_spec_ApartOf M a0_0 a0_1 a1_0 a1_1).snd))
def S_spec_ApartOf (M : FOps) : FSpec := mkSpec (.cons (.agg (.pair (.fl .f32) (.fl .f32))) (.cons (.agg (.pair (.fl .f32) (.fl .f32))) .nil)) (.cons (.one (.fl .f32)) (.cons (.one .bool) .nil)) (fun _ => true) (fun x => F_spec_ApartOf (p_spec_ApartOf M x.1.1 x.1.2 x.2.1.1 x.2.1.2))

def F_impl_isWay (r : Bool) : AS.Ty (.cons (.one .bool) .nil) × List CS := ((r, ()), [])
def p_impl_isWay (M : FOps) (a0_0 : Nat) (a0_1 : Nat) (a0_2 : Nat) : Bool :=
  p_impl_IsFinite M a0_0 && (p_impl_IsFinite M a0_1 && (p_impl_IsFinite M a0_2 && true))
def S_impl_isWay (M : FOps) : FSpec := mkSpec (.cons (.agg (.pair (.fl .f32) (.pair (.fl .f32) (.fl .f32)))) .nil) (.cons (.one .bool) .nil) (fun _ => true) (fun x => F_impl_isWay (p_impl_isWay M x.1.1 x.1.2.1 x.1.2.2))

def c0_impl_LongOfWay (M : FOps) (a0_0 : Nat) (a0_1 : Nat) (a0_2 : Nat) : Nat × Bool := p_impl_finite M (p_impl_Way_long M a0_0 a0_1 a0_2) (p_impl_IsFinite M (p_impl_dotOf M a0_0 a0_1 a0_2 a0_0 a0_1 a0_2))
def c1_impl_LongOfWay (M : FOps) (a0_0 : Nat) (a0_1 : Nat) (a0_2 : Nat) : Nat × Bool := p_impl_finite M (p_impl_Way_long M a0_0 a0_1 a0_2) false
def F_impl_LongOfWay (r : Nat × Bool) : AS.Ty (.cons (.one (.fl .f32)) (.cons (.one .bool) .nil)) × List CS := ((r.1, (r.2, ())), [])
def p_impl_LongOfWay (M : FOps) (a0_0 : Nat) (a0_1 : Nat) (a0_2 : Nat) : Nat × Bool :=
  (bif p_impl_isWay M a0_0 a0_1 a0_2 then ((c0_impl_LongOfWay M a0_0 a0_1 a0_2).fst, (c0_impl_LongOfWay M a0_0 a0_1 a0_2).snd) else ((c1_impl_LongOfWay M a0_0 a0_1 a0_2).fst, (c1_impl_LongOfWay M a0_0 a0_1 a0_2).snd))
def S_impl_LongOfWay (M : FOps) : FSpec := mkSpec (.cons (.agg (.pair (.fl .f32) (.pair (.fl .f32) (.fl .f32)))) .nil) (.cons (.one (.fl .f32)) (.cons (.one .bool) .nil)) (fun _ => true) (fun x => F_impl_LongOfWay (p_impl_LongOfWay M x.1.1 x.1.2.1 x.1.2.2))

def c0_impl_PlaceOfWay (M : FOps) (a0_0 : Nat) (a0_1 : Nat) (a0_2 : Nat) : Nat × Bool := p_impl_LongOfWay M a0_0 a0_1 a0_2
def c1_impl_PlaceOfWay (M : FOps) (a0_0 : Nat) (a0_1 : Nat) (a0_2 : Nat) : Nat × Nat × Bool := p_impl_valid M (p_impl_AngleTurns M a0_2 (p_impl_RootNumber M (M.bin BinOp.add FloatKind.f32 (M.bin BinOp.mul FloatKind.f32 a0_0 a0_0) (M.bin BinOp.mul FloatKind.f32 a0_1 a0_1)))) (p_impl_wrap M (p_impl_AngleTurns M a0_1 a0_0)) true
def F_impl_PlaceOfWay (r : Nat × Nat × Bool) : AS.Ty (.cons (.agg (.pair (.fl .f32) (.fl .f32))) (.cons (.one .bool) .nil)) × List CS := (((r.1, r.2.1), (r.2.2, ())), [])
def p_impl_PlaceOfWay (M : FOps) (a0_0 : Nat) (a0_1 : Nat) (a0_2 : Nat) : Nat × Nat × Bool :=
  (bif !(c0_impl_PlaceOfWay M a0_0 a0_1 a0_2).snd then (0, 0, false) else (bif !M.cmp BinOp.gtr FloatKind.f32 (c0_impl_PlaceOfWay M a0_0 a0_1 a0_2).fst 0 then (0, 0, false) else ((c1_impl_PlaceOfWay M a0_0 a0_1 a0_2).fst, (c1_impl_PlaceOfWay M a0_0 a0_1 a0_2).snd.fst, (c1_impl_PlaceOfWay M a0_0 a0_1 a0_2).snd.snd)))
def S_impl_PlaceOfWay (M : FOps) : FSpec := mkSpec (.cons (.agg (.pair (.fl .f32) (.pair (.fl .f32) (.fl .f32)))) .nil) (.cons (.agg (.pair (.fl .f32) (.fl .f32))) (.cons (.one .bool) .nil)) (fun _ => true) (fun x => F_impl_PlaceOfWay (p_impl_PlaceOfWay M x.1.1 x.1.2.1 x.1.2.2))

def c0_spec_l02From (M : FOps) (a0_0 : Nat) (a0_1 : Nat) (a0_2 : Nat) : Nat × Nat × Bool := p_spec_l02Give M (p_spec_l01Angle M a0_2 (p_spec_l01Sqrt M (M.bin BinOp.add FloatKind.f32 (M.bin BinOp.mul FloatKind.f32 a0_0 a0_0) (M.bin BinOp.mul FloatKind.f32 a0_1 a0_1)))) (p_spec_l02Wrap M (p_spec_l01Angle M a0_1 a0_0))
def F_spec_l02From (r : Nat × Nat × Bool) : AS.Ty (.cons (.agg (.pair (.fl .f32) (.fl .f32))) (.cons (.one .bool) .nil)) × List CS := (((r.1, r.2.1), (r.2.2, ())), [])
def p_spec_l02From (M : FOps) (a0_0 : Nat) (a0_1 : Nat) (a0_2 : Nat) : Nat × Nat × Bool :=
  (bif !p_spec_l02Ways M a0_0 a0_1 a0_2 then (0, 0, false) else (bif !p_spec_l02Above M (p_spec_l02Long M a0_0 a0_1 a0_2) then (0, 0, false) else ((c0_spec_l02From M a0_0 a0_1 a0_2).fst, (c0_spec_l02From M a0_0 a0_1 a0_2).snd.fst, (c0_spec_l02From M a0_0 a0_1 a0_2).snd.snd)))
def S_spec_l02From (M : FOps) : FSpec := mkSpec (.cons (.agg (.pair (.fl .f32) (.pair (.fl .f32) (.fl .f32)))) .nil) (.cons (.agg (.pair (.fl .f32) (.fl .f32))) (.cons (.one .bool) .nil)) (fun _ => true) (fun x => F_spec_l02From (p_spec_l02From M x.1.1 x.1.2.1 x.1.2.2))

def c0_impl_GoFrom (M : FOps) (a0_0 : Nat) (a0_1 : Nat) (a1 : Nat) (a2 : Nat) : Nat × Nat × Nat := p_impl_Place_way M a0_0 a0_1
def c1_impl_GoFrom (M : FOps) (a0_0 : Nat) (a0_1 : Nat) (a1 : Nat) (a2 : Nat) : Nat := p_impl_cosine M a0_1
def c2_impl_GoFrom (M : FOps) (a0_0 : Nat) (a0_1 : Nat) (a1 : Nat) (a2 : Nat) : Nat := p_impl_SineTurns M a0_1
def c3_impl_GoFrom (M : FOps) (a0_0 : Nat) (a0_1 : Nat) (a1 : Nat) (a2 : Nat) : Nat × Nat × Nat := p_impl_sumOf M (M.neg FloatKind.f32 (M.bin BinOp.mul FloatKind.f32 (p_impl_SineTurns M a0_0) (c1_impl_GoFrom M a0_0 a0_1 a1 a2))) (M.neg FloatKind.f32 (M.bin BinOp.mul FloatKind.f32 (p_impl_SineTurns M a0_0) (c2_impl_GoFrom M a0_0 a0_1 a1 a2))) (p_impl_cosine M a0_0) (p_impl_cosine M a1) (M.neg FloatKind.f32 (c2_impl_GoFrom M a0_0 a0_1 a1 a2)) (c1_impl_GoFrom M a0_0 a0_1 a1 a2) 0 (p_impl_SineTurns M a1)
def c4_impl_GoFrom (M : FOps) (a0_0 : Nat) (a0_1 : Nat) (a1 : Nat) (a2 : Nat) : Nat × Nat × Nat := p_impl_sumOf M (c0_impl_GoFrom M a0_0 a0_1 a1 a2).fst (c0_impl_GoFrom M a0_0 a0_1 a1 a2).snd.fst (c0_impl_GoFrom M a0_0 a0_1 a1 a2).snd.snd (p_impl_cosine M a2) (c3_impl_GoFrom M a0_0 a0_1 a1 a2).fst (c3_impl_GoFrom M a0_0 a0_1 a1 a2).snd.fst (c3_impl_GoFrom M a0_0 a0_1 a1 a2).snd.snd (p_impl_SineTurns M a2)
def c5_impl_GoFrom (M : FOps) (a0_0 : Nat) (a0_1 : Nat) (a1 : Nat) (a2 : Nat) : Nat × Nat × Bool := p_impl_PlaceOfWay M (c4_impl_GoFrom M a0_0 a0_1 a1 a2).fst (c4_impl_GoFrom M a0_0 a0_1 a1 a2).snd.fst (c4_impl_GoFrom M a0_0 a0_1 a1 a2).snd.snd
def F_impl_GoFrom (r : Nat × Nat × Bool) : AS.Ty (.cons (.agg (.pair (.fl .f32) (.fl .f32))) (.cons (.one .bool) .nil)) × List CS := (((r.1, r.2.1), (r.2.2, ())), [])
def p_impl_GoFrom (M : FOps) (a0_0 : Nat) (a0_1 : Nat) (a1 : Nat) (a2 : Nat) : Nat × Nat × Bool :=
  (bif !p_impl_ValidPlace M a0_0 a0_1 then (0, 0, false) else (bif !(p_impl_IsFinite M a1 && (p_impl_IsFinite M a2 && true)) then (0, 0, false) else ((c5_impl_GoFrom M a0_0 a0_1 a1 a2).fst, (c5_impl_GoFrom M a0_0 a0_1 a1 a2).snd.fst, (c5_impl_GoFrom M a0_0 a0_1 a1 a2).snd.snd)))
def S_impl_GoFrom (M : FOps) : FSpec := mkSpec (.cons (.agg (.pair (.fl .f32) (.fl .f32))) (.cons (.one (.fl .f32)) (.cons (.one (.fl .f32)) .nil))) (.cons (.agg (.pair (.fl .f32) (.fl .f32))) (.cons (.one .bool) .nil)) (fun _ => true) (fun x => F_impl_GoFrom (p_impl_GoFrom M x.1.1 x.1.2 x.2.1 x.2.2.1))

def c0_spec_l02Go (M : FOps) (a0_0 : Nat) (a0_1 : Nat) (a1 : Nat) (a2 : Nat) : Nat × Nat × Nat := p_spec_l02Way M a0_0 a0_1
def c1_spec_l02Go (M : FOps) (a0_0 : Nat) (a0_1 : Nat) (a1 : Nat) (a2 : Nat) : Nat × Nat × Nat := p_spec_l02Times M (c0_spec_l02Go M a0_0 a0_1 a1 a2).fst (c0_spec_l02Go M a0_0 a0_1 a1 a2).snd.fst (c0_spec_l02Go M a0_0 a0_1 a1 a2).snd.snd (p_spec_l02Cosine M a2)
def c2_spec_l02Go (M : FOps) (a0_0 : Nat) (a0_1 : Nat) (a1 : Nat) (a2 : Nat) : Nat := p_spec_l02Cosine M a0_1
def c3_spec_l02Go (M : FOps) (a0_0 : Nat) (a0_1 : Nat) (a1 : Nat) (a2 : Nat) : Nat := p_spec_l01Sine M a0_1
def c4_spec_l02Go (M : FOps) (a0_0 : Nat) (a0_1 : Nat) (a1 : Nat) (a2 : Nat) : Nat × Nat × Nat := p_spec_l02Times M (M.neg FloatKind.f32 (M.bin BinOp.mul FloatKind.f32 (p_spec_l01Sine M a0_0) (c2_spec_l02Go M a0_0 a0_1 a1 a2))) (M.neg FloatKind.f32 (M.bin BinOp.mul FloatKind.f32 (p_spec_l01Sine M a0_0) (c3_spec_l02Go M a0_0 a0_1 a1 a2))) (p_spec_l02Cosine M a0_0) (p_spec_l02Cosine M a1)
def c5_spec_l02Go (M : FOps) (a0_0 : Nat) (a0_1 : Nat) (a1 : Nat) (a2 : Nat) : Nat × Nat × Nat := p_spec_l02Times M (M.neg FloatKind.f32 (c3_spec_l02Go M a0_0 a0_1 a1 a2)) (c2_spec_l02Go M a0_0 a0_1 a1 a2) 0 (p_spec_l01Sine M a1)
def c6_spec_l02Go (M : FOps) (a0_0 : Nat) (a0_1 : Nat) (a1 : Nat) (a2 : Nat) : Nat × Nat × Nat := p_spec_l02Add M (c4_spec_l02Go M a0_0 a0_1 a1 a2).fst (c4_spec_l02Go M a0_0 a0_1 a1 a2).snd.fst (c4_spec_l02Go M a0_0 a0_1 a1 a2).snd.snd (c5_spec_l02Go M a0_0 a0_1 a1 a2).fst (c5_spec_l02Go M a0_0 a0_1 a1 a2).snd.fst (c5_spec_l02Go M a0_0 a0_1 a1 a2).snd.snd
def c7_spec_l02Go (M : FOps) (a0_0 : Nat) (a0_1 : Nat) (a1 : Nat) (a2 : Nat) : Nat × Nat × Nat := p_spec_l02Times M (c6_spec_l02Go M a0_0 a0_1 a1 a2).fst (c6_spec_l02Go M a0_0 a0_1 a1 a2).snd.fst (c6_spec_l02Go M a0_0 a0_1 a1 a2).snd.snd (p_spec_l01Sine M a2)
def c8_spec_l02Go (M : FOps) (a0_0 : Nat) (a0_1 : Nat) (a1 : Nat) (a2 : Nat) : Nat × Nat × Nat := p_spec_l02Add M (c1_spec_l02Go M a0_0 a0_1 a1 a2).fst (c1_spec_l02Go M a0_0 a0_1 a1 a2).snd.fst (c1_spec_l02Go M a0_0 a0_1 a1 a2).snd.snd (c7_spec_l02Go M a0_0 a0_1 a1 a2).fst (c7_spec_l02Go M a0_0 a0_1 a1 a2).snd.fst (c7_spec_l02Go M a0_0 a0_1 a1 a2).snd.snd
def c9_spec_l02Go (M : FOps) (a0_0 : Nat) (a0_1 : Nat) (a1 : Nat) (a2 : Nat) : Nat × Nat × Bool := p_spec_l02From M (c8_spec_l02Go M a0_0 a0_1 a1 a2).fst (c8_spec_l02Go M a0_0 a0_1 a1 a2).snd.fst (c8_spec_l02Go M a0_0 a0_1 a1 a2).snd.snd
def F_spec_l02Go (r : Nat × Nat × Bool) : AS.Ty (.cons (.agg (.pair (.fl .f32) (.fl .f32))) (.cons (.one .bool) .nil)) × List CS := (((r.1, r.2.1), (r.2.2, ())), [])
def p_spec_l02Go (M : FOps) (a0_0 : Nat) (a0_1 : Nat) (a1 : Nat) (a2 : Nat) : Nat × Nat × Bool :=
  ((c9_spec_l02Go M a0_0 a0_1 a1 a2).fst, (c9_spec_l02Go M a0_0 a0_1 a1 a2).snd.fst, (c9_spec_l02Go M a0_0 a0_1 a1 a2).snd.snd)
def S_spec_l02Go (M : FOps) : FSpec := mkSpec (.cons (.agg (.pair (.fl .f32) (.fl .f32))) (.cons (.one (.fl .f32)) (.cons (.one (.fl .f32)) .nil))) (.cons (.agg (.pair (.fl .f32) (.fl .f32))) (.cons (.one .bool) .nil)) (fun _ => true) (fun x => F_spec_l02Go (p_spec_l02Go M x.1.1 x.1.2 x.2.1 x.2.2.1))

def c0_spec_GoFrom (M : FOps) (a0_0 : Nat) (a0_1 : Nat) (a1 : Nat) (a2 : Nat) : Nat × Nat × Bool := p_spec_l02Go M a0_0 a0_1 a1 a2
def p_spec_GoFrom (M : FOps) (a0_0 : Nat) (a0_1 : Nat) (a1 : Nat) (a2 : Nat) : Nat × Nat × Bool :=
  (bif !p_spec_l02Is M a0_0 a0_1 then (0, 0, false) else (bif !p_spec_l01Finite M a1 then (0, 0, false) else (bif !p_spec_l01Finite M a2 then (0, 0, false) else ((c0_spec_GoFrom M a0_0 a0_1 a1 a2).fst, (c0_spec_GoFrom M a0_0 a0_1 a1 a2).snd.fst, (c0_spec_GoFrom M a0_0 a0_1 a1 a2).snd.snd))))
def c0_impl_ShareOfWay (M : FOps) (a0_0 : Nat) (a0_1 : Nat) (a1_0 : Nat) (a1_1 : Nat) (a2 : Nat) : Nat × Nat × Bool := p_impl_GoFrom M a0_0 a0_1 (p_impl_course M a0_0 a0_1 a1_0 a1_1) (M.bin BinOp.mul FloatKind.f32 (p_impl_apart M a0_0 a0_1 a1_0 a1_1) a2)
def F_impl_ShareOfWay (r : Nat × Nat × Bool) : AS.Ty (.cons (.agg (.pair (.fl .f32) (.fl .f32))) (.cons (.one .bool) .nil)) × List CS := (((r.1, r.2.1), (r.2.2, ())), [])
def p_impl_ShareOfWay (M : FOps) (a0_0 : Nat) (a0_1 : Nat) (a1_0 : Nat) (a1_1 : Nat) (a2 : Nat) : Nat × Nat × Bool :=
  (bif !(p_impl_ValidPlace M a0_0 a0_1 && (p_impl_ValidPlace M a1_0 a1_1 && true)) then (0, 0, false) else (bif !p_impl_IsFinite M a2 then (0, 0, false) else ((c0_impl_ShareOfWay M a0_0 a0_1 a1_0 a1_1 a2).fst, (c0_impl_ShareOfWay M a0_0 a0_1 a1_0 a1_1 a2).snd.fst, (c0_impl_ShareOfWay M a0_0 a0_1 a1_0 a1_1 a2).snd.snd)))
def S_impl_ShareOfWay (M : FOps) : FSpec := mkSpec (.cons (.agg (.pair (.fl .f32) (.fl .f32))) (.cons (.agg (.pair (.fl .f32) (.fl .f32))) (.cons (.one (.fl .f32)) .nil))) (.cons (.agg (.pair (.fl .f32) (.fl .f32))) (.cons (.one .bool) .nil)) (fun _ => true) (fun x => F_impl_ShareOfWay (p_impl_ShareOfWay M x.1.1 x.1.2 x.2.1.1 x.2.1.2 x.2.2.1))

def c0_spec_ShareOfWay (M : FOps) (a0_0 : Nat) (a0_1 : Nat) (a1_0 : Nat) (a1_1 : Nat) (a2 : Nat) : Nat × Bool := p_spec_CourseTo M a0_0 a0_1 a1_0 a1_1
def c1_spec_ShareOfWay (M : FOps) (a0_0 : Nat) (a0_1 : Nat) (a1_0 : Nat) (a1_1 : Nat) (a2 : Nat) : Nat × Bool := p_spec_ApartOf M a0_0 a0_1 a1_0 a1_1
def c2_spec_ShareOfWay (M : FOps) (a0_0 : Nat) (a0_1 : Nat) (a1_0 : Nat) (a1_1 : Nat) (a2 : Nat) : Nat := M.bin BinOp.mul FloatKind.f32 (c1_spec_ShareOfWay M a0_0 a0_1 a1_0 a1_1 a2).fst a2
def c3_spec_ShareOfWay (M : FOps) (a0_0 : Nat) (a0_1 : Nat) (a1_0 : Nat) (a1_1 : Nat) (a2 : Nat) : Nat × Nat × Bool := p_spec_l02Go M a0_0 a0_1 (c0_spec_ShareOfWay M a0_0 a0_1 a1_0 a1_1 a2).fst (c2_spec_ShareOfWay M a0_0 a0_1 a1_0 a1_1 a2)
def F_spec_ShareOfWay (r : Nat × Nat × Bool) : AS.Ty (.cons (.agg (.pair (.fl .f32) (.fl .f32))) (.cons (.one .bool) .nil)) × List CS := (((r.1, r.2.1), (r.2.2, ())), [])
def p_spec_ShareOfWay (M : FOps) (a0_0 : Nat) (a0_1 : Nat) (a1_0 : Nat) (a1_1 : Nat) (a2 : Nat) : Nat × Nat × Bool :=
  (bif !(c0_spec_ShareOfWay M a0_0 a0_1 a1_0 a1_1 a2).snd then (0, 0, false) else (bif !(c1_spec_ShareOfWay M a0_0 a0_1 a1_0 a1_1 a2).snd then (0, 0, false) else (bif !p_spec_l01Finite M a2 then (0, 0, false) else (bif !p_spec_l01Finite M (c2_spec_ShareOfWay M a0_0 a0_1 a1_0 a1_1 a2) then (0, 0, false) else ((c3_spec_ShareOfWay M a0_0 a0_1 a1_0 a1_1 a2).fst, (c3_spec_ShareOfWay M a0_0 a0_1 a1_0 a1_1 a2).snd.fst, (c3_spec_ShareOfWay M a0_0 a0_1 a1_0 a1_1 a2).snd.snd)))))
def S_spec_ShareOfWay (M : FOps) : FSpec := mkSpec (.cons (.agg (.pair (.fl .f32) (.fl .f32))) (.cons (.agg (.pair (.fl .f32) (.fl .f32))) (.cons (.one (.fl .f32)) .nil))) (.cons (.agg (.pair (.fl .f32) (.fl .f32))) (.cons (.one .bool) .nil)) (fun _ => true) (fun x => F_spec_ShareOfWay (p_spec_ShareOfWay M x.1.1 x.1.2 x.2.1.1 x.2.1.2 x.2.2.1))

end
end Go.Dv
