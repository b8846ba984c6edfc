/- Sine and angle as plain functions: what the program's and the reference's texts compute, step by step. -/
/- Printed by gen2.py. -/
import Derived.Test.YtggaemodkekeeaaQa

namespace Go.Dv
open Go.Cv
noncomputable section

/-- the polynomial of the sine -/
def sinPoly (M : FOps) (u : Nat) : Nat → Nat → Nat
  | 0, p => p
  | k + 1, p => sinPoly M u k (M.bin .sub .f64 4607182418800017408 (M.bin .quo .f64 (M.bin .mul .f64 u p) (M.ofi .f64 (2 * (k + 1) * (2 * (k + 1) + 1)))))
def sinCore (M : FOps) (f : Nat) : Nat :=
  M.bin .mul .f64 (M.bin .mul .f64 f 4618760256179416344) (sinPoly M (M.bin .mul .f64 (M.bin .mul .f64 f 4618760256179416344) (M.bin .mul .f64 f 4618760256179416344)) 8 4607182418800017408)
def sinHalf (M : FOps) (f : Nat) : Nat := bif M.cmp .geq .f64 f 4602678819172646912 then M.bin .sub .f64 f 4602678819172646912 else f
def sinQuarter (M : FOps) (g : Nat) : Nat := bif M.cmp .gtr .f64 g 4598175219545276416 then M.bin .sub .f64 4602678819172646912 g else g
/-- the sine of a fraction of a turn -/
def sineTail (M : FOps) (f : Nat) : Nat :=
  bif M.cmp .geq .f64 f 4602678819172646912 then M.neg .f64 (sinCore M (sinQuarter M (sinHalf M f))) else sinCore M (sinQuarter M (sinHalf M f))

@[reducible] def sigF32x2 : AS := .cons (.one (.fl .f32)) (.cons (.one (.fl .f32)) .nil)
@[reducible] def sigF64x2 : AS := .cons (.one (.fl .f64)) (.cons (.one (.fl .f64)) .nil)
@[reducible] def sigF32 : AS := .cons (.one (.fl .f32)) .nil
def F_f64 (r : Nat) : sigF.Ty × List CS := ((r, ()), [])
def F_f32 (r : Nat) : sigF32.Ty × List CS := ((r, ()), [])
/-- as the texts branch -/
def sineTree (M : FOps) (f : Nat) : Tr (sigF.Ty × List CS) :=
  let fin := fun g => brT (M.cmp .geq .f64 f 4602678819172646912) (some (F_f64 (M.neg .f64 (sinCore M g)))) (some (F_f64 (sinCore M g)))
  let mid := fun g => brT (M.cmp .gtr .f64 g 4598175219545276416) (fin (M.bin .sub .f64 4602678819172646912 g)) (fin g)
  brT (M.cmp .geq .f64 f 4602678819172646912) (mid (M.bin .sub .f64 f 4602678819172646912)) (mid f)
theorem sineTree_eq (M : FOps) (f : Nat) : sineTree M f = some (F_f64 (sineTail M f)) := by
  unfold sineTree sineTail sinHalf
  cases M.cmp .geq .f64 f 4602678819172646912
  · unfold sinQuarter
    simp only [cond_false]
    cases M.cmp .gtr .f64 f 4598175219545276416 <;> rfl
  · unfold sinQuarter
    simp only [cond_true]
    cases M.cmp .gtr .f64 (M.bin .sub .f64 f 4602678819172646912) 4598175219545276416 <;> rfl

def p_impl_sine (M : FOps) (t : Nat) : Nat := sineTail M (p_impl_fraction M t)
def S_impl_sine (M : FOps) : FSpec := mkSpec sigF sigF (fun _ => true) (fun x => F_f64 (p_impl_sine M x.1))

/-- the reference's fraction -/
def specFrac (M : FOps) (y : Nat) : Nat :=
  bif M.cmp .lss .f64 (M.bin .sub .f64 y (M.ofi .f64 (M.toi .f64 y .i64))) 0 then M.bin .add .f64 (M.bin .sub .f64 y (M.ofi .f64 (M.toi .f64 y .i64))) 4607182418800017408 else M.bin .sub .f64 y (M.ofi .f64 (M.toi .f64 y .i64))
def p_spec_l01SineWide (M : FOps) (y : Nat) : Nat :=
  bif M.cmp .neq .f64 (M.bin .sub .f64 y y) 0 then p_math_NaN M
  else bif (bif M.cmp .geq .f64 y 4841369599423283200 then true else M.cmp .leq .f64 y 14064741636278059008) then 0
  else sineTail M (specFrac M y)
def r_spec_l01SineWide (M : FOps) (y : Nat) : Bool :=
  bif M.cmp .neq .f64 (M.bin .sub .f64 y y) 0 then true
  else bif (bif M.cmp .geq .f64 y 4841369599423283200 then true else M.cmp .leq .f64 y 14064741636278059008) then true
  else M.toiOk .f64 y .i64
def S_spec_l01SineWide (M : FOps) : FSpec := mkSpec sigF sigF (fun _ => true) (fun x => F_f64 (p_spec_l01SineWide M x.1))

/-! ### angles -/

def angStep (M : FOps) (t : Nat) : Nat := M.bin .quo .f64 t (M.bin .add .f64 4607182418800017408 (M.sqrt (M.bin .add .f64 4607182418800017408 (M.bin .mul .f64 t t))))
def angPoly (M : FOps) (u : Nat) : Nat → Nat → Nat
  | 0, p => p
  | k + 1, p => angPoly M u k (M.bin .sub .f64 (M.bin .quo .f64 4607182418800017408 (M.ofi .f64 (2 * k + 1))) (M.bin .mul .f64 u p))
def angPoly8 (M : FOps) (u : Nat) : Nat := angPoly M u 8 0
def angOf3 (M : FOps) (t : Nat) : Nat := M.bin .quo .f64 (M.bin .mul .f64 4620693217682128896 (M.bin .mul .f64 t (angPoly8 M (M.bin .mul .f64 t t)))) 4618760256179416344
def angCore (M : FOps) (t : Nat) : Nat := angOf3 M (angStep M (angStep M (angStep M t)))
/-- the angle of a point whose parts have the absolute values a (of y) and b (of x) -/
def angTail (M : FOps) (a b : Nat) (xn yn : Bool) : Nat :=
  let over := M.cmp .gtr .f64 a b
  let g := angCore M (bif over then M.bin .quo .f64 b a else M.bin .quo .f64 a b)
  let g := bif over then M.bin .sub .f64 4598175219545276416 g else g
  let g := bif xn then M.bin .sub .f64 4602678819172646912 g else g
  bif yn then M.neg .f64 g else g

def p_impl_AngleWide (M : FOps) (y x : Nat) : Nat := angTail M (M.abs (M.wid y)) (M.abs (M.wid x)) (M.cmp .lss .f32 x 0) (M.cmp .lss .f32 y 0)
/-- is the whole number of both parts finite -/
def angFin (M : FOps) (y x : Nat) : Bool := p_impl_IsFinite M x && (p_impl_IsFinite M y && true)
def p_impl_AngleTurns (M : FOps) (y x : Nat) : Nat :=
  bif angFin M y x then
    bif (bif M.cmp .eql .f32 x 0 then M.cmp .eql .f32 y 0 else false) then 0 else M.nar (p_impl_AngleWide M y x)
  else M.nar (p_math_NaN M)
def S_impl_AngleTurns (M : FOps) : FSpec := mkSpec sigF32x2 sigF32 (fun _ => true) (fun x => F_f32 (p_impl_AngleTurns M x.1 x.2.1))

def r_impl_AngleTurns (M : FOps) (y x : Nat) : Bool :=
  bif angFin M y x then
    bif (bif M.cmp .eql .f32 x 0 then M.cmp .eql .f32 y 0 else false) then true else M.narOk (p_impl_AngleWide M y x)
  else M.narOk (p_math_NaN M)

variable {β : Type}
/-- as the texts branch -/
def angTree (M : FOps) (a b : Nat) (xn yn : Bool) (fin : Nat → Tr β) : Tr β :=
  let r3 := fun g => brT yn (fin (M.neg .f64 g)) (fin g)
  let r2 := fun g => brT xn (r3 (M.bin .sub .f64 4602678819172646912 g)) (r3 g)
  let r1 := fun t => brT (M.cmp .gtr .f64 a b) (r2 (M.bin .sub .f64 4598175219545276416 (angCore M t))) (r2 (angCore M t))
  brT (M.cmp .gtr .f64 a b) (r1 (M.bin .quo .f64 b a)) (r1 (M.bin .quo .f64 a b))
theorem angTree_eq (M : FOps) (a b : Nat) (xn yn : Bool) (fin : Nat → Tr β) : angTree M a b xn yn fin = fin (angTail M a b xn yn) := by
  unfold angTree angTail
  cases M.cmp .gtr .f64 a b <;> cases xn <;> cases yn <;> rfl

def p_spec_l01AngleWide (M : FOps) (y x : Nat) : Nat :=
  bif (bif M.cmp .neq .f64 (M.bin .sub .f64 y y) 0 then true else M.cmp .neq .f64 (M.bin .sub .f64 x x) 0) then p_math_NaN M
  else bif (bif M.cmp .eql .f64 x 0 then M.cmp .eql .f64 y 0 else false) then 0
  else angTail M (M.abs y) (M.abs x) (M.cmp .lss .f64 x 0) (M.cmp .lss .f64 y 0)
def S_spec_l01AngleWide (M : FOps) : FSpec := mkSpec sigF64x2 sigF (fun _ => true) (fun x => F_f64 (p_spec_l01AngleWide M x.1 x.2.1))

@[reducible] def shPlace : Sh := .pair (.fl .f32) (.fl .f32)
/-- whether all of a list are finite -/
def finsB (M : FOps) (l : List Nat) : Bool := l.all fun x => p_impl_IsFinite M x
def S_impl_areFinite (M : FOps) : FSpec := mkSpec (.cons (.one (.ls (.fl .f32))) .nil) (.cons (.one .bool) .nil) (fun x => decide (x.1.length < 2 ^ 62)) (fun x => ((finsB M x.1, ()), []))

/-- whether all places of a list are valid -/
def validsB (M : FOps) (l : List (Nat × Nat)) : Bool := l.all fun x => p_impl_ValidPlace M x.1 x.2
def S_impl_areValid (M : FOps) : FSpec := mkSpec (.cons (.one (.ls shPlace)) .nil) (.cons (.one .bool) .nil) (fun x => decide (x.1.length < 2 ^ 62)) (fun x => ((validsB M x.1, ()), []))
def placesB (M : FOps) (l : List (Nat × Nat)) : Bool := validsB M l && (decide (1 ≤ l.length) && decide (l.length ≤ 64))
def S_impl_ArePlaces (M : FOps) : FSpec := mkSpec (.cons (.one (.ls shPlace)) .nil) (.cons (.one .bool) .nil) (fun x => decide (x.1.length < 2 ^ 62)) (fun x => ((placesB M x.1, ()), []))
def S_spec_l02Are (M : FOps) : FSpec := mkSpec (.cons (.one (.ls shPlace)) .nil) (.cons (.one .bool) .nil) (fun x => decide (x.1.length < 2 ^ 62)) (fun x => ((placesB M x.1, ()), []))
end
end Go.Dv


set_option linter.unusedVariables false
set_option linter.unusedSimpArgs false

-- GENERATED BELOW (gen.py)
namespace Go.Dv
open Go.Cv
noncomputable section
def c0_impl_SineTurns (M : FOps) (a0 : Nat) : Nat := M.wid a0
def c1_impl_SineTurns (M : FOps) (a0 : Nat) : Nat := p_math_NaN M
def c2_impl_SineTurns (M : FOps) (a0 : Nat) : Nat := p_impl_sine M (c0_impl_SineTurns M a0)
def F_impl_SineTurns (r : Nat) : AS.Ty (.cons (.one (.fl .f32)) .nil) × List CS := ((r, ()), [])
def p_impl_SineTurns (M : FOps) (a0 : Nat) : Nat :=
  (bif !p_impl_isFinite M (c0_impl_SineTurns M a0) then M.nar (c1_impl_SineTurns M a0) else (bif M.cmp BinOp.geq FloatKind.f64 (M.abs (c0_impl_SineTurns M a0)) 4841369599423283200 then 0 else M.nar (c2_impl_SineTurns M a0)))
def r_impl_SineTurns (M : FOps) (a0 : Nat) : Bool :=
  (bif !p_impl_isFinite M (c0_impl_SineTurns M a0) then ((M.narOk (c1_impl_SineTurns M a0)) && true) else (bif M.cmp BinOp.geq FloatKind.f64 (M.abs (c0_impl_SineTurns M a0)) 4841369599423283200 then true else ((M.narOk (c2_impl_SineTurns M a0)) && true)))
def S_impl_SineTurns (M : FOps) : FSpec := mkSpec (.cons (.one (.fl .f32)) .nil) (.cons (.one (.fl .f32)) .nil) (fun _ => true) (fun x => F_impl_SineTurns (p_impl_SineTurns M x.1))

def F_impl_cosine (r : Nat) : AS.Ty (.cons (.one (.fl .f32)) .nil) × List CS := ((r, ()), [])
def p_impl_cosine (M : FOps) (a0 : Nat) : Nat :=
  p_impl_SineTurns M (M.bin BinOp.add FloatKind.f32 a0 1048576000)
def S_impl_cosine (M : FOps) : FSpec := mkSpec (.cons (.one (.fl .f32)) .nil) (.cons (.one (.fl .f32)) .nil) (fun _ => true) (fun x => F_impl_cosine (p_impl_cosine M x.1))

def c0_spec_l01Sine (M : FOps) (a0 : Nat) : Nat := p_spec_l01SineWide M (M.wid a0)
def F_spec_l01Sine (r : Nat) : AS.Ty (.cons (.one (.fl .f32)) .nil) × List CS := ((r, ()), [])
def p_spec_l01Sine (M : FOps) (a0 : Nat) : Nat :=
  p_spec_l01Narrow M (c0_spec_l01Sine M a0)
def r_spec_l01Sine (M : FOps) (a0 : Nat) : Bool :=
  ((r_spec_l01Narrow M (c0_spec_l01Sine M a0)) && true)
def S_spec_l01Sine (M : FOps) : FSpec := mkSpec (.cons (.one (.fl .f32)) .nil) (.cons (.one (.fl .f32)) .nil) (fun _ => true) (fun x => F_spec_l01Sine (p_spec_l01Sine M x.1))

def F_spec_l02Cosine (r : Nat) : AS.Ty (.cons (.one (.fl .f32)) .nil) × List CS := ((r, ()), [])
def p_spec_l02Cosine (M : FOps) (a0 : Nat) : Nat :=
  p_spec_l01Sine M (M.bin BinOp.add FloatKind.f32 a0 1048576000)
def S_spec_l02Cosine (M : FOps) : FSpec := mkSpec (.cons (.one (.fl .f32)) .nil) (.cons (.one (.fl .f32)) .nil) (fun _ => true) (fun x => F_spec_l02Cosine (p_spec_l02Cosine M x.1))

def c0_spec_l01Angle (M : FOps) (a0 : Nat) (a1 : Nat) : Nat := p_spec_l01AngleWide M (M.wid a0) (M.wid a1)
def F_spec_l01Angle (r : Nat) : AS.Ty (.cons (.one (.fl .f32)) .nil) × List CS := ((r, ()), [])
def p_spec_l01Angle (M : FOps) (a0 : Nat) (a1 : Nat) : Nat :=
  p_spec_l01Narrow M (c0_spec_l01Angle M a0 a1)
def r_spec_l01Angle (M : FOps) (a0 : Nat) (a1 : Nat) : Bool :=
  ((r_spec_l01Narrow M (c0_spec_l01Angle M a0 a1)) && true)
def S_spec_l01Angle (M : FOps) : FSpec := mkSpec (.cons (.one (.fl .f32)) (.cons (.one (.fl .f32)) .nil)) (.cons (.one (.fl .f32)) .nil) (fun _ => true) (fun x => F_spec_l01Angle (p_spec_l01Angle M x.1 x.2.1))

def F_impl_Place_way (r : Nat × Nat × Nat) : AS.Ty (.cons (.agg (.pair (.fl .f32) (.pair (.fl .f32) (.fl .f32)))) .nil) × List CS := (((r.1, (r.2.1, r.2.2)), ()), [])
def p_impl_Place_way (M : FOps) (a0_0 : Nat) (a0_1 : Nat) : Nat × Nat × Nat :=
  (M.bin BinOp.mul FloatKind.f32 (p_impl_cosine M a0_0) (p_impl_cosine M a0_1), M.bin BinOp.mul FloatKind.f32 (p_impl_cosine M a0_0) (p_impl_SineTurns M a0_1), p_impl_SineTurns M a0_0)
def S_impl_Place_way (M : FOps) : FSpec := mkSpec (.cons (.agg (.pair (.fl .f32) (.fl .f32))) .nil) (.cons (.agg (.pair (.fl .f32) (.pair (.fl .f32) (.fl .f32)))) .nil) (fun _ => true) (fun x => F_impl_Place_way (p_impl_Place_way M x.1.1 x.1.2))

def F_spec_l02Way (r : Nat × Nat × Nat) : AS.Ty (.cons (.agg (.pair (.fl .f32) (.pair (.fl .f32) (.fl .f32)))) .nil) × List CS := (((r.1, (r.2.1, r.2.2)), ()), [])
def p_spec_l02Way (M : FOps) (a0_0 : Nat) (a0_1 : Nat) : Nat × Nat × Nat :=
  (M.bin BinOp.mul FloatKind.f32 (p_spec_l02Cosine M a0_0) (p_spec_l02Cosine M a0_1), M.bin BinOp.mul FloatKind.f32 (p_spec_l02Cosine M a0_0) (p_spec_l01Sine M a0_1), p_spec_l01Sine M a0_0)
def S_spec_l02Way (M : FOps) : FSpec := mkSpec (.cons (.agg (.pair (.fl .f32) (.fl .f32))) .nil) (.cons (.agg (.pair (.fl .f32) (.pair (.fl .f32) (.fl .f32)))) .nil) (fun _ => true) (fun x => F_spec_l02Way (p_spec_l02Way M x.1.1 x.1.2))

def c0_impl_apart (M : FOps) (a0_0 : Nat) (a0_1 : Nat) (a1_0 : Nat) (a1_1 : Nat) : Nat × Nat × Nat := p_impl_Place_way M a0_0 a0_1
def c1_impl_apart (M : FOps) (a0_0 : Nat) (a0_1 : Nat) (a1_0 : Nat) (a1_1 : Nat) : Nat × Nat × Nat := p_impl_Place_way M a1_0 a1_1
def c2_impl_apart (M : FOps) (a0_0 : Nat) (a0_1 : Nat) (a1_0 : Nat) (a1_1 : Nat) : Nat × Nat × Nat := p_impl_cross M (c0_impl_apart M a0_0 a0_1 a1_0 a1_1).1 (c0_impl_apart M a0_0 a0_1 a1_0 a1_1).2.1 (c0_impl_apart M a0_0 a0_1 a1_0 a1_1).2.2 (c1_impl_apart M a0_0 a0_1 a1_0 a1_1).1 (c1_impl_apart M a0_0 a0_1 a1_0 a1_1).2.1 (c1_impl_apart M a0_0 a0_1 a1_0 a1_1).2.2
def F_impl_apart (r : Nat) : AS.Ty (.cons (.one (.fl .f32)) .nil) × List CS := ((r, ()), [])
def p_impl_apart (M : FOps) (a0_0 : Nat) (a0_1 : Nat) (a1_0 : Nat) (a1_1 : Nat) : Nat :=
  p_impl_AngleTurns M (p_impl_Way_long M (c2_impl_apart M a0_0 a0_1 a1_0 a1_1).1 (c2_impl_apart M a0_0 a0_1 a1_0 a1_1).2.1 (c2_impl_apart M a0_0 a0_1 a1_0 a1_1).2.2) (p_impl_dotOf M (c0_impl_apart M a0_0 a0_1 a1_0 a1_1).1 (c0_impl_apart M a0_0 a0_1 a1_0 a1_1).2.1 (c0_impl_apart M a0_0 a0_1 a1_0 a1_1).2.2 (c1_impl_apart M a0_0 a0_1 a1_0 a1_1).1 (c1_impl_apart M a0_0 a0_1 a1_0 a1_1).2.1 (c1_impl_apart M a0_0 a0_1 a1_0 a1_1).2.2)
def S_impl_apart (M : FOps) : FSpec := mkSpec (.cons (.agg (.pair (.fl .f32) (.fl .f32))) (.cons (.agg (.pair (.fl .f32) (.fl .f32))) .nil)) (.cons (.one (.fl .f32)) .nil) (fun _ => true) (fun x => F_impl_apart (p_impl_apart M x.1.1 x.1.2 x.2.1.1 x.2.1.2))

def c0_spec_l02Apart (M : FOps) (a0_0 : Nat) (a0_1 : Nat) (a1_0 : Nat) (a1_1 : Nat) : Nat × Nat × Nat := p_spec_l02Way M a0_0 a0_1
def c1_spec_l02Apart (M : FOps) (a0_0 : Nat) (a0_1 : Nat) (a1_0 : Nat) (a1_1 : Nat) : Nat × Nat × Nat := p_spec_l02Way M a1_0 a1_1
def c2_spec_l02Apart (M : FOps) (a0_0 : Nat) (a0_1 : Nat) (a1_0 : Nat) (a1_1 : Nat) : Nat × Nat × Nat := p_spec_l02Cross M (c0_spec_l02Apart M a0_0 a0_1 a1_0 a1_1).1 (c0_spec_l02Apart M a0_0 a0_1 a1_0 a1_1).2.1 (c0_spec_l02Apart M a0_0 a0_1 a1_0 a1_1).2.2 (c1_spec_l02Apart M a0_0 a0_1 a1_0 a1_1).1 (c1_spec_l02Apart M a0_0 a0_1 a1_0 a1_1).2.1 (c1_spec_l02Apart M a0_0 a0_1 a1_0 a1_1).2.2
def F_spec_l02Apart (r : Nat) : AS.Ty (.cons (.one (.fl .f32)) .nil) × List CS := ((r, ()), [])
def p_spec_l02Apart (M : FOps) (a0_0 : Nat) (a0_1 : Nat) (a1_0 : Nat) (a1_1 : Nat) : Nat :=
  p_spec_l01Angle M (p_spec_l02Long M (c2_spec_l02Apart M a0_0 a0_1 a1_0 a1_1).1 (c2_spec_l02Apart M a0_0 a0_1 a1_0 a1_1).2.1 (c2_spec_l02Apart M a0_0 a0_1 a1_0 a1_1).2.2) (p_spec_l02Dot M (c0_spec_l02Apart M a0_0 a0_1 a1_0 a1_1).1 (c0_spec_l02Apart M a0_0 a0_1 a1_0 a1_1).2.1 (c0_spec_l02Apart M a0_0 a0_1 a1_0 a1_1).2.2 (c1_spec_l02Apart M a0_0 a0_1 a1_0 a1_1).1 (c1_spec_l02Apart M a0_0 a0_1 a1_0 a1_1).2.1 (c1_spec_l02Apart M a0_0 a0_1 a1_0 a1_1).2.2)
def S_spec_l02Apart (M : FOps) : FSpec := mkSpec (.cons (.agg (.pair (.fl .f32) (.fl .f32))) (.cons (.agg (.pair (.fl .f32) (.fl .f32))) .nil)) (.cons (.one (.fl .f32)) .nil) (fun _ => true) (fun x => F_spec_l02Apart (p_spec_l02Apart M x.1.1 x.1.2 x.2.1.1 x.2.1.2))

end
end Go.Dv
