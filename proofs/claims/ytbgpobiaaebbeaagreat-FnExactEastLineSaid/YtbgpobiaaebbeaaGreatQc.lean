/- Printed by gen2.py. -/
import Derived.Test.YtbgpobiaaebbeaaGreatQb
set_option linter.unusedVariables false
set_option linter.unusedSimpArgs false

-- GENERATED BELOW (gen.py)
namespace Go.Dv
open Go.Cv
noncomputable section
def c0_impl_SineTurns (M : FOps) (a0 : Nat) : Nat := M.wid a0
def c1_impl_SineTurns (M : FOps) (a0 : Nat) : Nat := p_math_NaN M
def c2_impl_SineTurns (M : FOps) (a0 : Nat) : Nat := p_impl_sine M (c0_impl_SineTurns M a0)
def F_impl_SineTurns (r : Nat) : AS.Ty (.cons (.one (.fl .f32)) .nil) × List CS := ((r, ()), [])
def p_impl_SineTurns (M : FOps) (a0 : Nat) : Nat :=
  (bif !p_impl_isFinite M (c0_impl_SineTurns M a0) then M.nar (c1_impl_SineTurns M a0) else (bif M.cmp BinOp.geq FloatKind.f64 (M.abs (c0_impl_SineTurns M a0)) 4841369599423283200 then 0 else M.nar (c2_impl_SineTurns M a0)))
def r_impl_SineTurns (M : FOps) (a0 : Nat) : Bool :=
  (bif !p_impl_isFinite M (c0_impl_SineTurns M a0) then ((M.narOk (c1_impl_SineTurns M a0)) && true) else (bif M.cmp BinOp.geq FloatKind.f64 (M.abs (c0_impl_SineTurns M a0)) 4841369599423283200 then true else ((M.narOk (c2_impl_SineTurns M a0)) && true)))
def S_impl_SineTurns (M : FOps) : FSpec := mkSpec (.cons (.one (.fl .f32)) .nil) (.cons (.one (.fl .f32)) .nil) (fun _ => true) (fun x => F_impl_SineTurns (p_impl_SineTurns M x.1))

def F_impl_cosine (r : Nat) : AS.Ty (.cons (.one (.fl .f32)) .nil) × List CS := ((r, ()), [])
def p_impl_cosine (M : FOps) (a0 : Nat) : Nat :=
  p_impl_SineTurns M (M.bin BinOp.add FloatKind.f32 a0 1048576000)
def S_impl_cosine (M : FOps) : FSpec := mkSpec (.cons (.one (.fl .f32)) .nil) (.cons (.one (.fl .f32)) .nil) (fun _ => true) (fun x => F_impl_cosine (p_impl_cosine M x.1))

def c0_spec_l01Sine (M : FOps) (a0 : Nat) : Nat := p_spec_l01SineWide M (M.wid a0)
def F_spec_l01Sine (r : Nat) : AS.Ty (.cons (.one (.fl .f32)) .nil) × List CS := ((r, ()), [])
def p_spec_l01Sine (M : FOps) (a0 : Nat) : Nat :=
  p_spec_l01Narrow M (c0_spec_l01Sine M a0)
def r_spec_l01Sine (M : FOps) (a0 : Nat) : Bool :=
  ((r_spec_l01Narrow M (c0_spec_l01Sine M a0)) && true)
def S_spec_l01Sine (M : FOps) : FSpec := mkSpec (.cons (.one (.fl .f32)) .nil) (.cons (.one (.fl .f32)) .nil) (fun _ => true) (fun x => F_spec_l01Sine (p_spec_l01Sine M x.1))

def F_spec_l02Cosine (r : Nat) : AS.Ty (.cons (.one (.fl .f32)) .nil) × List CS := ((r, ()), [])
def p_spec_l02Cosine (M : FOps) (a0 : Nat) : Nat :=
  p_spec_l01Sine M (M.bin BinOp.add FloatKind.f32 a0 1048576000)
def S_spec_l02Cosine (M : FOps) : FSpec := mkSpec (.cons (.one (.fl .f32)) .nil) (.cons (.one (.fl .f32)) .nil) (fun _ => true) (fun x => F_spec_l02Cosine (p_spec_l02Cosine M x.1))

def c0_spec_l01Angle (M : FOps) (a0 : Nat) (a1 : Nat) : Nat := p_spec_l01AngleWide M (M.wid a0) (M.wid a1)
def F_spec_l01Angle (r : Nat) : AS.Ty (.cons (.one (.fl .f32)) .nil) × List CS := ((r, ()), [])
def p_spec_l01Angle (M : FOps) (a0 : Nat) (a1 : Nat) : Nat :=
  p_spec_l01Narrow M (c0_spec_l01Angle M a0 a1)
def r_spec_l01Angle (M : FOps) (a0 : Nat) (a1 : Nat) : Bool :=
  ((r_spec_l01Narrow M (c0_spec_l01Angle M a0 a1)) && true)
def S_spec_l01Angle (M : FOps) : FSpec := mkSpec (.cons (.one (.fl .f32)) (.cons (.one (.fl .f32)) .nil)) (.cons (.one (.fl .f32)) .nil) (fun _ => true) (fun x => F_spec_l01Angle (p_spec_l01Angle M x.1 x.2.1))

def F_impl_Place_way (r : Nat × Nat × Nat) : AS.Ty (.cons (.agg (.pair (.fl .f32) (.pair (.fl .f32) (.fl .f32)))) .nil) × List CS := (((r.1, (r.2.1, r.2.2)), ()), [])
def p_impl_Place_way (M : FOps) (a0_0 : Nat) (a0_1 : Nat) : Nat × Nat × Nat :=
  (M.bin BinOp.mul FloatKind.f32 (p_impl_cosine M a0_0) (p_impl_cosine M a0_1), M.bin BinOp.mul FloatKind.f32 (p_impl_cosine M a0_0) (p_impl_SineTurns M a0_1), p_impl_SineTurns M a0_0)
def S_impl_Place_way (M : FOps) : FSpec := mkSpec (.cons (.agg (.pair (.fl .f32) (.fl .f32))) .nil) (.cons (.agg (.pair (.fl .f32) (.pair (.fl .f32) (.fl .f32)))) .nil) (fun _ => true) (fun x => F_impl_Place_way (p_impl_Place_way M x.1.1 x.1.2))

def F_spec_l02Way (r : Nat × Nat × Nat) : AS.Ty (.cons (.agg (.pair (.fl .f32) (.pair (.fl .f32) (.fl .f32)))) .nil) × List CS := (((r.1, (r.2.1, r.2.2)), ()), [])
def p_spec_l02Way (M : FOps) (a0_0 : Nat) (a0_1 : Nat) : Nat × Nat × Nat :=
  (M.bin BinOp.mul FloatKind.f32 (p_spec_l02Cosine M a0_0) (p_spec_l02Cosine M a0_1), M.bin BinOp.mul FloatKind.f32 (p_spec_l02Cosine M a0_0) (p_spec_l01Sine M a0_1), p_spec_l01Sine M a0_0)
def S_spec_l02Way (M : FOps) : FSpec := mkSpec (.cons (.agg (.pair (.fl .f32) (.fl .f32))) .nil) (.cons (.agg (.pair (.fl .f32) (.pair (.fl .f32) (.fl .f32)))) .nil) (fun _ => true) (fun x => F_spec_l02Way (p_spec_l02Way M x.1.1 x.1.2))

def c0_impl_apart (M : FOps) (a0_0 : Nat) (a0_1 : Nat) (a1_0 : Nat) (a1_1 : Nat) : Nat × Nat × Nat := p_impl_Place_way M a0_0 a0_1
def c1_impl_apart (M : FOps) (a0_0 : Nat) (a0_1 : Nat) (a1_0 : Nat) (a1_1 : Nat) : Nat × Nat × Nat := p_impl_Place_way M a1_0 a1_1
def c2_impl_apart (M : FOps) (a0_0 : Nat) (a0_1 : Nat) (a1_0 : Nat) (a1_1 : Nat) : Nat × Nat × Nat := p_impl_cross M (c0_impl_apart M a0_0 a0_1 a1_0 a1_1).fst (c0_impl_apart M a0_0 a0_1 a1_0 a1_1).snd.fst (c0_impl_apart M a0_0 a0_1 a1_0 a1_1).snd.snd (c1_impl_apart M a0_0 a0_1 a1_0 a1_1).fst (c1_impl_apart M a0_0 a0_1 a1_0 a1_1).snd.fst (c1_impl_apart M a0_0 a0_1 a1_0 a1_1).snd.snd
def F_impl_apart (r : Nat) : AS.Ty (.cons (.one (.fl .f32)) .nil) × List CS := ((r, ()), [])
def p_impl_apart (M : FOps) (a0_0 : Nat) (a0_1 : Nat) (a1_0 : Nat) (a1_1 : Nat) : Nat :=
  p_impl_AngleTurns M (p_impl_Way_long M (c2_impl_apart M a0_0 a0_1 a1_0 a1_1).fst (c2_impl_apart M a0_0 a0_1 a1_0 a1_1).snd.fst (c2_impl_apart M a0_0 a0_1 a1_0 a1_1).snd.snd) (p_impl_dotOf M (c0_impl_apart M a0_0 a0_1 a1_0 a1_1).fst (c0_impl_apart M a0_0 a0_1 a1_0 a1_1).snd.fst (c0_impl_apart M a0_0 a0_1 a1_0 a1_1).snd.snd (c1_impl_apart M a0_0 a0_1 a1_0 a1_1).fst (c1_impl_apart M a0_0 a0_1 a1_0 a1_1).snd.fst (c1_impl_apart M a0_0 a0_1 a1_0 a1_1).snd.snd)
def S_impl_apart (M : FOps) : FSpec := mkSpec (.cons (.agg (.pair (.fl .f32) (.fl .f32))) (.cons (.agg (.pair (.fl .f32) (.fl .f32))) .nil)) (.cons (.one (.fl .f32)) .nil) (fun _ => true) (fun x => F_impl_apart (p_impl_apart M x.1.1 x.1.2 x.2.1.1 x.2.1.2))

def c0_spec_l02Apart (M : FOps) (a0_0 : Nat) (a0_1 : Nat) (a1_0 : Nat) (a1_1 : Nat) : Nat × Nat × Nat := p_spec_l02Way M a0_0 a0_1
def c1_spec_l02Apart (M : FOps) (a0_0 : Nat) (a0_1 : Nat) (a1_0 : Nat) (a1_1 : Nat) : Nat × Nat × Nat := p_spec_l02Way M a1_0 a1_1
def c2_spec_l02Apart (M : FOps) (a0_0 : Nat) (a0_1 : Nat) (a1_0 : Nat) (a1_1 : Nat) : Nat × Nat × Nat := p_spec_l02Cross M (c0_spec_l02Apart M a0_0 a0_1 a1_0 a1_1).fst (c0_spec_l02Apart M a0_0 a0_1 a1_0 a1_1).snd.fst (c0_spec_l02Apart M a0_0 a0_1 a1_0 a1_1).snd.snd (c1_spec_l02Apart M a0_0 a0_1 a1_0 a1_1).fst (c1_spec_l02Apart M a0_0 a0_1 a1_0 a1_1).snd.fst (c1_spec_l02Apart M a0_0 a0_1 a1_0 a1_1).snd.snd
def F_spec_l02Apart (r : Nat) : AS.Ty (.cons (.one (.fl .f32)) .nil) × List CS := ((r, ()), [])
def p_spec_l02Apart (M : FOps) (a0_0 : Nat) (a0_1 : Nat) (a1_0 : Nat) (a1_1 : Nat) : Nat :=
  p_spec_l01Angle M (p_spec_l02Long M (c2_spec_l02Apart M a0_0 a0_1 a1_0 a1_1).fst (c2_spec_l02Apart M a0_0 a0_1 a1_0 a1_1).snd.fst (c2_spec_l02Apart M a0_0 a0_1 a1_0 a1_1).snd.snd) (p_spec_l02Dot M (c0_spec_l02Apart M a0_0 a0_1 a1_0 a1_1).fst (c0_spec_l02Apart M a0_0 a0_1 a1_0 a1_1).snd.fst (c0_spec_l02Apart M a0_0 a0_1 a1_0 a1_1).snd.snd (c1_spec_l02Apart M a0_0 a0_1 a1_0 a1_1).fst (c1_spec_l02Apart M a0_0 a0_1 a1_0 a1_1).snd.fst (c1_spec_l02Apart M a0_0 a0_1 a1_0 a1_1).snd.snd)
def S_spec_l02Apart (M : FOps) : FSpec := mkSpec (.cons (.agg (.pair (.fl .f32) (.fl .f32))) (.cons (.agg (.pair (.fl .f32) (.fl .f32))) .nil)) (.cons (.one (.fl .f32)) .nil) (fun _ => true) (fun x => F_spec_l02Apart (p_spec_l02Apart M x.1.1 x.1.2 x.2.1.1 x.2.1.2))

def c0_impl_course (M : FOps) (a0_0 : Nat) (a0_1 : Nat) (a1_0 : Nat) (a1_1 : Nat) : Nat := M.bin BinOp.sub FloatKind.f32 a1_1 a0_1
def c1_impl_course (M : FOps) (a0_0 : Nat) (a0_1 : Nat) (a1_0 : Nat) (a1_1 : Nat) : Nat := p_impl_cosine M a1_0
def F_impl_course (r : Nat) : AS.Ty (.cons (.one (.fl .f32)) .nil) × List CS := ((r, ()), [])
def p_impl_course (M : FOps) (a0_0 : Nat) (a0_1 : Nat) (a1_0 : Nat) (a1_1 : Nat) : Nat :=
  p_impl_positive M (p_impl_AngleTurns M (M.bin BinOp.mul FloatKind.f32 (p_impl_SineTurns M (c0_impl_course M a0_0 a0_1 a1_0 a1_1)) (c1_impl_course M a0_0 a0_1 a1_0 a1_1)) (M.bin BinOp.sub FloatKind.f32 (M.bin BinOp.mul FloatKind.f32 (p_impl_cosine M a0_0) (p_impl_SineTurns M a1_0)) (M.bin BinOp.mul FloatKind.f32 (M.bin BinOp.mul FloatKind.f32 (p_impl_SineTurns M a0_0) (c1_impl_course M a0_0 a0_1 a1_0 a1_1)) (p_impl_cosine M (c0_impl_course M a0_0 a0_1 a1_0 a1_1)))))
def S_impl_course (M : FOps) : FSpec := mkSpec (.cons (.agg (.pair (.fl .f32) (.fl .f32))) (.cons (.agg (.pair (.fl .f32) (.fl .f32))) .nil)) (.cons (.one (.fl .f32)) .nil) (fun _ => true) (fun x => F_impl_course (p_impl_course M x.1.1 x.1.2 x.2.1.1 x.2.1.2))

def c0_spec_l02Course (M : FOps) (a0_0 : Nat) (a0_1 : Nat) (a1_0 : Nat) (a1_1 : Nat) : Nat := M.bin BinOp.sub FloatKind.f32 a1_1 a0_1
def c1_spec_l02Course (M : FOps) (a0_0 : Nat) (a0_1 : Nat) (a1_0 : Nat) (a1_1 : Nat) : Nat := p_spec_l02Cosine M a1_0
def F_spec_l02Course (r : Nat) : AS.Ty (.cons (.one (.fl .f32)) .nil) × List CS := ((r, ()), [])
def p_spec_l02Course (M : FOps) (a0_0 : Nat) (a0_1 : Nat) (a1_0 : Nat) (a1_1 : Nat) : Nat :=
  p_spec_l02Above0 M (p_spec_l01Angle M (M.bin BinOp.mul FloatKind.f32 (p_spec_l01Sine M (c0_spec_l02Course M a0_0 a0_1 a1_0 a1_1)) (c1_spec_l02Course M a0_0 a0_1 a1_0 a1_1)) (M.bin BinOp.sub FloatKind.f32 (M.bin BinOp.mul FloatKind.f32 (p_spec_l02Cosine M a0_0) (p_spec_l01Sine M a1_0)) (M.bin BinOp.mul FloatKind.f32 (M.bin BinOp.mul FloatKind.f32 (p_spec_l01Sine M a0_0) (c1_spec_l02Course M a0_0 a0_1 a1_0 a1_1)) (p_spec_l02Cosine M (c0_spec_l02Course M a0_0 a0_1 a1_0 a1_1)))))
def S_spec_l02Course (M : FOps) : FSpec := mkSpec (.cons (.agg (.pair (.fl .f32) (.fl .f32))) (.cons (.agg (.pair (.fl .f32) (.fl .f32))) .nil)) (.cons (.one (.fl .f32)) .nil) (fun _ => true) (fun x => F_spec_l02Course (p_spec_l02Course M x.1.1 x.1.2 x.2.1.1 x.2.1.2))

end
end Go.Dv
