/- Wp, Wq: merged by merge.py. -/
import Derived.Test.YtbgpobiaaebbeaaGreatWh
import Derived.Test.YtbgpobiaaebbeaaGreatQd

/- Printed by gen2.py. -/
set_option linter.unusedVariables false
set_option linter.unusedSimpArgs false

-- GENERATED BELOW (gen.py)
namespace Go.Dv
open Go.Cv
noncomputable section
def c0_laws_toMap (M : FOps) (a0_0 : Int) (a0_1 : Nat) (a0_2 : Nat) (a0_3 : Nat) : Nat × Nat := p_laws_toPlace M a0_1 a0_2
def F_laws_toMap (r : Int × Nat × Nat × Nat) : AS.Ty (.cons (.agg (.pair (.int .i64) (.pair (.pair (.fl .f32) (.fl .f32)) (.fl .f32)))) .nil) × List CS := (((r.1, ((r.2.1, r.2.2.1), r.2.2.2)), ()), [])
def p_laws_toMap (M : FOps) (a0_0 : Int) (a0_1 : Nat) (a0_2 : Nat) (a0_3 : Nat) : Int × Nat × Nat × Nat :=
  (a0_0, (c0_laws_toMap M a0_0 a0_1 a0_2 a0_3).fst, (c0_laws_toMap M a0_0 a0_1 a0_2 a0_3).snd, a0_3)
def S_laws_toMap (M : FOps) : FSpec := mkSpec (.cons (.agg (.pair (.int .i64) (.pair (.pair (.fl .f32) (.fl .f32)) (.fl .f32)))) .nil) (.cons (.agg (.pair (.int .i64) (.pair (.pair (.fl .f32) (.fl .f32)) (.fl .f32)))) .nil) (fun _ => true) (fun x => F_laws_toMap (p_laws_toMap M x.1.1 x.1.2.1.1 x.1.2.1.2 x.1.2.2))

def F_laws_sameComplex (r : Bool) : AS.Ty (.cons (.one .bool) .nil) × List CS := ((r, ()), [])
def p_laws_sameComplex (M : FOps) (a0_0 : Nat) (a0_1 : Nat) (a1_0 : Nat) (a1_1 : Nat) : Bool :=
  (bif p_laws_sameFloat M a0_0 a1_0 then p_laws_sameFloat M a0_1 a1_1 else false)
def S_laws_sameComplex (M : FOps) : FSpec := mkSpec (.cons (.one (.cx .f64)) (.cons (.one (.cx .f64)) .nil)) (.cons (.one .bool) .nil) (fun _ => true) (fun x => F_laws_sameComplex (p_laws_sameComplex M x.1.1 x.1.2 x.2.1.1 x.2.1.2))

def F_spec_l00In (r : Bool) : AS.Ty (.cons (.one .bool) .nil) × List CS := ((r, ()), [])
def p_spec_l00In (M : FOps) (a0 : Int) (a1 : Int) (a2 : Int) : Bool :=
  (bif decide (a0 ≥ a1) then decide (a0 ≤ a2) else false)
def S_spec_l00In (M : FOps) : FSpec := mkSpec (.cons (.one (.int .i64)) (.cons (.one (.int .i64)) (.cons (.one (.int .i64)) .nil))) (.cons (.one .bool) .nil) (fun _ => true) (fun x => F_spec_l00In (p_spec_l00In M x.1 x.2.1 x.2.2.1))

def F_spec_l03Is (r : Bool) : AS.Ty (.cons (.one .bool) .nil) × List CS := ((r, ()), [])
def p_spec_l03Is (M : FOps) (a0_0 : Int) (a0_1 : Nat) (a0_2 : Nat) (a0_3 : Nat) : Bool :=
  (bif p_spec_l00In M a0_0 0 6 then (bif p_spec_l02Is M a0_1 a0_2 then (bif M.cmp BinOp.geq FloatKind.f32 a0_3 3195388559 then M.cmp BinOp.leq FloatKind.f32 a0_3 1047904911 else false) else false) else false)
def S_spec_l03Is (M : FOps) : FSpec := mkSpec (.cons (.ptr (.pair (.int .i64) (.pair (.pair (.fl .f32) (.fl .f32)) (.fl .f32)))) .nil) (.cons (.one .bool) .nil) (fun _ => true) (fun x => F_spec_l03Is (p_spec_l03Is M x.1.1 x.1.2.1.1 x.1.2.1.2 x.1.2.2))

def F_impl_ValidMap (r : Bool) : AS.Ty (.cons (.one .bool) .nil) × List CS := ((r, ()), [])
def p_impl_ValidMap (M : FOps) (a0_0 : Int) (a0_1 : Nat) (a0_2 : Nat) (a0_3 : Nat) : Bool :=
  (bif p_impl_within M a0_0 0 6 then (bif p_impl_ValidPlace M a0_1 a0_2 then p_impl_inside M a0_3 3195388559 1047904911 else false) else false)
def S_impl_ValidMap (M : FOps) : FSpec := mkSpec (.cons (.agg (.pair (.int .i64) (.pair (.pair (.fl .f32) (.fl .f32)) (.fl .f32)))) .nil) (.cons (.one .bool) .nil) (fun _ => true) (fun x => F_impl_ValidMap (p_impl_ValidMap M x.1.1 x.1.2.1.1 x.1.2.1.2 x.1.2.2))

def F_spec_l03Round (r : Nat) : AS.Ty (.cons (.one (.fl .f32)) .nil) × List CS := ((r, ()), [])
def p_spec_l03Round (M : FOps) (a0 : Nat) : Nat :=
  M.bin BinOp.mul FloatKind.f32 1086918619 a0
def S_spec_l03Round (M : FOps) : FSpec := mkSpec (.cons (.one (.fl .f32)) .nil) (.cons (.one (.fl .f32)) .nil) (fun _ => true) (fun x => F_spec_l03Round (p_spec_l03Round M x.1))

def F_spec_l01CFinite (r : Bool) : AS.Ty (.cons (.one .bool) .nil) × List CS := ((r, ()), [])
def p_spec_l01CFinite (M : FOps) (a0_0 : Nat) (a0_1 : Nat) : Bool :=
  (bif p_spec_l01Finite M a0_0 then p_spec_l01Finite M a0_1 else false)
def S_spec_l01CFinite (M : FOps) : FSpec := mkSpec (.cons (.one (.cx .f32)) .nil) (.cons (.one .bool) .nil) (fun _ => true) (fun x => F_spec_l01CFinite (p_spec_l01CFinite M x.1.1 x.1.2))

def F_spec_l03Number (r : Nat × Nat × Bool) : AS.Ty (.cons (.one (.cx .f32)) (.cons (.one .bool) .nil)) × List CS := (((r.1, r.2.1), (r.2.2, ())), [])
def p_spec_l03Number (M : FOps) (a0_0 : Nat) (a0_1 : Nat) : Nat × Nat × Bool :=
  (bif !p_spec_l01CFinite M a0_0 a0_1 then (0, 0, false) else (a0_0, a0_1, true))
def S_spec_l03Number (M : FOps) : FSpec := mkSpec (.cons (.one (.cx .f32)) .nil) (.cons (.one (.cx .f32)) (.cons (.one .bool) .nil)) (fun _ => true) (fun x => F_spec_l03Number (p_spec_l03Number M x.1.1 x.1.2))

def F_impl_IsFiniteComplex (r : Bool) : AS.Ty (.cons (.one .bool) .nil) × List CS := ((r, ()), [])
def p_impl_IsFiniteComplex (M : FOps) (a0_0 : Nat) (a0_1 : Nat) : Bool :=
  (bif p_impl_IsFinite M a0_0 then p_impl_IsFinite M a0_1 else false)
def S_impl_IsFiniteComplex (M : FOps) : FSpec := mkSpec (.cons (.one (.cx .f32)) .nil) (.cons (.one .bool) .nil) (fun _ => true) (fun x => F_impl_IsFiniteComplex (p_impl_IsFiniteComplex M x.1.1 x.1.2))

def F_impl_finitePoint (r : Nat × Nat × Bool) : AS.Ty (.cons (.one (.cx .f32)) (.cons (.one .bool) .nil)) × List CS := (((r.1, r.2.1), (r.2.2, ())), [])
def p_impl_finitePoint (M : FOps) (a0_0 : Nat) (a0_1 : Nat) (a1 : Bool) : Nat × Nat × Bool :=
  (bif !a1 then (0, 0, false) else (bif !p_impl_IsFiniteComplex M a0_0 a0_1 then (0, 0, false) else (a0_0, a0_1, true)))
def S_impl_finitePoint (M : FOps) : FSpec := mkSpec (.cons (.one (.cx .f32)) (.cons (.one .bool) .nil)) (.cons (.one (.cx .f32)) (.cons (.one .bool) .nil)) (fun _ => true) (fun x => F_impl_finitePoint (p_impl_finitePoint M x.1.1 x.1.2 x.2.1))

def F_spec_l01Scale (r : Nat × Nat) : AS.Ty (.cons (.one (.cx .f32)) .nil) × List CS := (((r.1, r.2), ()), [])
def p_spec_l01Scale (M : FOps) (a0_0 : Nat) (a0_1 : Nat) (a1 : Nat) : Nat × Nat :=
  (M.bin BinOp.mul FloatKind.f32 a0_0 a1, M.bin BinOp.mul FloatKind.f32 a0_1 a1)
def S_spec_l01Scale (M : FOps) : FSpec := mkSpec (.cons (.one (.cx .f32)) (.cons (.one (.fl .f32)) .nil)) (.cons (.one (.cx .f32)) .nil) (fun _ => true) (fun x => F_spec_l01Scale (p_spec_l01Scale M x.1.1 x.1.2 x.2.1))

def F_impl_ScaleComplex (r : Nat × Nat) : AS.Ty (.cons (.one (.cx .f32)) .nil) × List CS := (((r.1, r.2), ()), [])
def p_impl_ScaleComplex (M : FOps) (a0_0 : Nat) (a0_1 : Nat) (a1 : Nat) : Nat × Nat :=
  (M.bin BinOp.mul FloatKind.f32 a0_0 a1, M.bin BinOp.mul FloatKind.f32 a0_1 a1)
def S_impl_ScaleComplex (M : FOps) : FSpec := mkSpec (.cons (.one (.cx .f32)) (.cons (.one (.fl .f32)) .nil)) (.cons (.one (.cx .f32)) .nil) (fun _ => true) (fun x => F_impl_ScaleComplex (p_impl_ScaleComplex M x.1.1 x.1.2 x.2.1))

def c0_impl_ApartOf (M : FOps) (a0_0 : Nat) (a0_1 : Nat) (a1_0 : Nat) (a1_1 : Nat) : Nat × Bool := p_impl_finite M (p_impl_apart M a0_0 a0_1 a1_0 a1_1) (p_impl_ValidPlace M a0_0 a0_1 && (p_impl_ValidPlace M a1_0 a1_1 && true))
def F_impl_ApartOf (r : Nat × Bool) : AS.Ty (.cons (.one (.fl .f32)) (.cons (.one .bool) .nil)) × List CS := ((r.1, (r.2, ())), [])
def p_impl_ApartOf (M : FOps) (a0_0 : Nat) (a0_1 : Nat) (a1_0 : Nat) (a1_1 : Nat) : Nat × Bool :=
  ((c0_impl_ApartOf M a0_0 a0_1 a1_0 a1_1).fst, (c0_impl_ApartOf M a0_0 a0_1 a1_0 a1_1).snd)
def S_impl_ApartOf (M : FOps) : FSpec := mkSpec (.cons (.agg (.pair (.fl .f32) (.fl .f32))) (.cons (.agg (.pair (.fl .f32) (.fl .f32))) .nil)) (.cons (.one (.fl .f32)) (.cons (.one .bool) .nil)) (fun _ => true) (fun x => F_impl_ApartOf (p_impl_ApartOf M x.1.1 x.1.2 x.2.1.1 x.2.1.2))

def c0_impl_CourseTo (M : FOps) (a0_0 : Nat) (a0_1 : Nat) (a1_0 : Nat) (a1_1 : Nat) : Nat × Bool := p_impl_finite M (p_impl_course M a0_0 a0_1 a1_0 a1_1) (p_impl_ValidPlace M a0_0 a0_1 && (p_impl_ValidPlace M a1_0 a1_1 && true))
def F_impl_CourseTo (r : Nat × Bool) : AS.Ty (.cons (.one (.fl .f32)) (.cons (.one .bool) .nil)) × List CS := ((r.1, (r.2, ())), [])
def p_impl_CourseTo (M : FOps) (a0_0 : Nat) (a0_1 : Nat) (a1_0 : Nat) (a1_1 : Nat) : Nat × Bool :=
  ((c0_impl_CourseTo M a0_0 a0_1 a1_0 a1_1).fst, (c0_impl_CourseTo M a0_0 a0_1 a1_0 a1_1).snd)
def S_impl_CourseTo (M : FOps) : FSpec := mkSpec (.cons (.agg (.pair (.fl .f32) (.fl .f32))) (.cons (.agg (.pair (.fl .f32) (.fl .f32))) .nil)) (.cons (.one (.fl .f32)) (.cons (.one .bool) .nil)) (fun _ => true) (fun x => F_impl_CourseTo (p_impl_CourseTo M x.1.1 x.1.2 x.2.1.1 x.2.1.2))

def F_spec_l01From (r : Nat) : AS.Ty (.cons (.one (.fl .f32)) .nil) × List CS := ((r, ()), [])
def p_spec_l01From (M : FOps) (a0 : Int) : Nat :=
  p_math_Float32frombits M (IntKind.u32.wrap a0)
def r_spec_l01From (M : FOps) (a0 : Int) : Bool :=
  ((decide (0 ≤ IntKind.u32.wrap a0) && decide (IntKind.u32.wrap a0 < 4294967296)) && true)
def S_spec_l01From (M : FOps) : FSpec := mkSpec (.cons (.one (.int .i64)) .nil) (.cons (.one (.fl .f32)) .nil) (fun x => r_spec_l01From M x.1) (fun x => F_spec_l01From (p_spec_l01From M x.1))

/-- spec.l01Phasor, loop 0: (.tv 3 false (.fl .f64)) (.tv 4 false (.int .i64)) (.tv 2 false (.cx .f32)) -/
def st_spec_l01Phasor_0 (M : FOps) (v0 : Nat) (v1 : Int) (v2 : Nat) (v3 : Nat) : Option ((Nat × Int × (Nat × Nat) × Unit) ⊕ (Nat × Int × (Nat × Nat) × Unit)) :=
  (brT (M.cmp BinOp.geq FloatKind.f64 v0 4598175219545276416) (some (.inl (M.bin BinOp.sub FloatKind.f64 v0 4598175219545276416, (IntKind.i64.wrap (v1 + 1), ((v2, v3), ()))))) (some (.inr (v0, (v1, ((v2, v3), ()))))))
def W_spec_l01Phasor_0 (M : FOps) : (Nat × Int × (Nat × Nat) × Unit) → Option (Nat × Int × (Nat × Nat) × Unit) := runW (fun x => st_spec_l01Phasor_0 M x.1 x.2.1 x.2.2.1.1 x.2.2.1.2)
def L_spec_l01Phasor_0 (M : FOps) : LSpec := mkL (.cons (.tv 3 false (.fl .f64)) (.cons (.tv 4 false (.int .i64)) (.cons (.tv 2 false (.cx .f32)) .nil))) [((.exit 0), (.cons (.tv 3 false (.fl .f64)) (.cons (.tv 4 false (.int .i64)) (.cons (.tv 2 false (.cx .f32)) .nil))))] 0 0 (W_spec_l01Phasor_0 M)
def c0_spec_l01Phasor (M : FOps) (a0 : Nat) : Nat := p_spec_l01From M 2143289344
def c1_spec_l01Phasor (M : FOps) (a0 : Nat) : Nat := M.bin BinOp.sub FloatKind.f64 a0 (M.ofi FloatKind.f64 (M.toi FloatKind.f64 a0 IntKind.i64))
def c2_spec_l01Phasor (M : FOps) (a0 : Nat) : Option (Nat × Int × (Nat × Nat) × Unit) := W_spec_l01Phasor_0 M (M.bin BinOp.add FloatKind.f64 (c1_spec_l01Phasor M a0) 4607182418800017408, 0, (0, 0), ())
def c3_spec_l01Phasor (M : FOps) (a0 : Nat) : Nat := p_spec_l01SineWide M ((c2_spec_l01Phasor M a0).getD (0, 0, (0, 0), ())).fst
def c4_spec_l01Phasor (M : FOps) (a0 : Nat) : Nat := M.bin BinOp.sub FloatKind.f64 0 (c3_spec_l01Phasor M a0)
def c5_spec_l01Phasor (M : FOps) (a0 : Nat) : Nat := p_spec_l01SineWide M (M.bin BinOp.sub FloatKind.f64 4598175219545276416 ((c2_spec_l01Phasor M a0).getD (0, 0, (0, 0), ())).fst)
def c6_spec_l01Phasor (M : FOps) (a0 : Nat) : Nat := p_spec_l01Narrow M (c4_spec_l01Phasor M a0)
def c7_spec_l01Phasor (M : FOps) (a0 : Nat) : Nat := p_spec_l01Narrow M (c5_spec_l01Phasor M a0)
def c8_spec_l01Phasor (M : FOps) (a0 : Nat) : Nat := M.bin BinOp.sub FloatKind.f64 0 (c5_spec_l01Phasor M a0)
def c9_spec_l01Phasor (M : FOps) (a0 : Nat) : Nat := p_spec_l01Narrow M (c8_spec_l01Phasor M a0)
def c10_spec_l01Phasor (M : FOps) (a0 : Nat) : Nat := p_spec_l01Narrow M (c3_spec_l01Phasor M a0)
def c11_spec_l01Phasor (M : FOps) (a0 : Nat) : Option (Nat × Int × (Nat × Nat) × Unit) := W_spec_l01Phasor_0 M ((c1_spec_l01Phasor M a0), 0, (0, 0), ())
def c12_spec_l01Phasor (M : FOps) (a0 : Nat) : Nat := p_spec_l01SineWide M ((c11_spec_l01Phasor M a0).getD (0, 0, (0, 0), ())).fst
def c13_spec_l01Phasor (M : FOps) (a0 : Nat) : Nat := M.bin BinOp.sub FloatKind.f64 0 (c12_spec_l01Phasor M a0)
def c14_spec_l01Phasor (M : FOps) (a0 : Nat) : Nat := p_spec_l01SineWide M (M.bin BinOp.sub FloatKind.f64 4598175219545276416 ((c11_spec_l01Phasor M a0).getD (0, 0, (0, 0), ())).fst)
def c15_spec_l01Phasor (M : FOps) (a0 : Nat) : Nat := p_spec_l01Narrow M (c13_spec_l01Phasor M a0)
def c16_spec_l01Phasor (M : FOps) (a0 : Nat) : Nat := p_spec_l01Narrow M (c14_spec_l01Phasor M a0)
def c17_spec_l01Phasor (M : FOps) (a0 : Nat) : Nat := M.bin BinOp.sub FloatKind.f64 0 (c14_spec_l01Phasor M a0)
def c18_spec_l01Phasor (M : FOps) (a0 : Nat) : Nat := p_spec_l01Narrow M (c17_spec_l01Phasor M a0)
def c19_spec_l01Phasor (M : FOps) (a0 : Nat) : Nat := p_spec_l01Narrow M (c12_spec_l01Phasor M a0)
def F_spec_l01Phasor (r : Nat × Nat) : AS.Ty (.cons (.one (.cx .f32)) .nil) × List CS := (((r.1, r.2), ()), [])
def p_spec_l01Phasor (M : FOps) (a0 : Nat) : Nat × Nat :=
  (bif M.cmp BinOp.neq FloatKind.f64 (M.bin BinOp.sub FloatKind.f64 a0 a0) 0 then ((c0_spec_l01Phasor M a0), (c0_spec_l01Phasor M a0)) else (bif M.cmp BinOp.geq FloatKind.f64 a0 4841369599423283200 then (1065353216, 0) else (bif M.cmp BinOp.leq FloatKind.f64 a0 14064741636278059008 then (1065353216, 0) else (bif M.cmp BinOp.lss FloatKind.f64 (c1_spec_l01Phasor M a0) 0 then (bif ((c2_spec_l01Phasor M a0).getD (0, 0, (0, 0), ())).snd.fst == 1 then ((c6_spec_l01Phasor M a0), (c7_spec_l01Phasor M a0)) else (bif ((c2_spec_l01Phasor M a0).getD (0, 0, (0, 0), ())).snd.fst == 2 then ((c9_spec_l01Phasor M a0), (c6_spec_l01Phasor M a0)) else (bif ((c2_spec_l01Phasor M a0).getD (0, 0, (0, 0), ())).snd.fst == 3 then ((c10_spec_l01Phasor M a0), (c9_spec_l01Phasor M a0)) else ((c7_spec_l01Phasor M a0), (c10_spec_l01Phasor M a0))))) else (bif ((c11_spec_l01Phasor M a0).getD (0, 0, (0, 0), ())).snd.fst == 1 then ((c15_spec_l01Phasor M a0), (c16_spec_l01Phasor M a0)) else (bif ((c11_spec_l01Phasor M a0).getD (0, 0, (0, 0), ())).snd.fst == 2 then ((c18_spec_l01Phasor M a0), (c15_spec_l01Phasor M a0)) else (bif ((c11_spec_l01Phasor M a0).getD (0, 0, (0, 0), ())).snd.fst == 3 then ((c19_spec_l01Phasor M a0), (c18_spec_l01Phasor M a0)) else ((c16_spec_l01Phasor M a0), (c19_spec_l01Phasor M a0)))))))))
def r_spec_l01Phasor (M : FOps) (a0 : Nat) : Bool :=
  (bif M.cmp BinOp.neq FloatKind.f64 (M.bin BinOp.sub FloatKind.f64 a0 a0) 0 then ((r_spec_l01From M 2143289344) && ((r_spec_l01From M 2143289344) && true)) else (bif M.cmp BinOp.geq FloatKind.f64 a0 4841369599423283200 then true else (bif M.cmp BinOp.leq FloatKind.f64 a0 14064741636278059008 then true else ((M.toiOk FloatKind.f64 a0 IntKind.i64) && (bif M.cmp BinOp.lss FloatKind.f64 (c1_spec_l01Phasor M a0) 0 then (((c2_spec_l01Phasor M a0).isSome) && (bif ((c2_spec_l01Phasor M a0).getD (0, 0, (0, 0), ())).snd.fst == 1 then ((r_spec_l01Narrow M (c4_spec_l01Phasor M a0)) && ((r_spec_l01Narrow M (c5_spec_l01Phasor M a0)) && true)) else (bif ((c2_spec_l01Phasor M a0).getD (0, 0, (0, 0), ())).snd.fst == 2 then ((r_spec_l01Narrow M (c8_spec_l01Phasor M a0)) && ((r_spec_l01Narrow M (c4_spec_l01Phasor M a0)) && true)) else (bif ((c2_spec_l01Phasor M a0).getD (0, 0, (0, 0), ())).snd.fst == 3 then ((r_spec_l01Narrow M (c3_spec_l01Phasor M a0)) && ((r_spec_l01Narrow M (c8_spec_l01Phasor M a0)) && true)) else ((r_spec_l01Narrow M (c5_spec_l01Phasor M a0)) && ((r_spec_l01Narrow M (c3_spec_l01Phasor M a0)) && true)))))) else (((c11_spec_l01Phasor M a0).isSome) && (bif ((c11_spec_l01Phasor M a0).getD (0, 0, (0, 0), ())).snd.fst == 1 then ((r_spec_l01Narrow M (c13_spec_l01Phasor M a0)) && ((r_spec_l01Narrow M (c14_spec_l01Phasor M a0)) && true)) else (bif ((c11_spec_l01Phasor M a0).getD (0, 0, (0, 0), ())).snd.fst == 2 then ((r_spec_l01Narrow M (c17_spec_l01Phasor M a0)) && ((r_spec_l01Narrow M (c13_spec_l01Phasor M a0)) && true)) else (bif ((c11_spec_l01Phasor M a0).getD (0, 0, (0, 0), ())).snd.fst == 3 then ((r_spec_l01Narrow M (c12_spec_l01Phasor M a0)) && ((r_spec_l01Narrow M (c17_spec_l01Phasor M a0)) && true)) else ((r_spec_l01Narrow M (c14_spec_l01Phasor M a0)) && ((r_spec_l01Narrow M (c12_spec_l01Phasor M a0)) && true)))))))))))
def S_spec_l01Phasor (M : FOps) : FSpec := mkSpec (.cons (.one (.fl .f64)) .nil) (.cons (.one (.cx .f32)) .nil) (fun x => r_spec_l01Phasor M x.1) (fun x => F_spec_l01Phasor (p_spec_l01Phasor M x.1))

/-- impl.PhasorOf, loop 0: (.tv 4 false (.fl .f64)) (.tv 5 false (.int .i64)) (.tv 2 false (.cx .f32)) -/
def st_impl_PhasorOf_0 (M : FOps) (v0 : Nat) (v1 : Int) (v2 : Nat) (v3 : Nat) : Option ((Nat × Int × (Nat × Nat) × Unit) ⊕ (Nat × Int × (Nat × Nat) × Unit)) :=
  (brT (M.cmp BinOp.geq FloatKind.f64 v0 4598175219545276416) (some (.inl (M.bin BinOp.sub FloatKind.f64 v0 4598175219545276416, (IntKind.i64.wrap (v1 + 1), ((v2, v3), ()))))) (some (.inr (v0, (v1, ((v2, v3), ()))))))
def W_impl_PhasorOf_0 (M : FOps) : (Nat × Int × (Nat × Nat) × Unit) → Option (Nat × Int × (Nat × Nat) × Unit) := runW (fun x => st_impl_PhasorOf_0 M x.1 x.2.1 x.2.2.1.1 x.2.2.1.2)
def L_impl_PhasorOf_0 (M : FOps) : LSpec := mkL (.cons (.tv 4 false (.fl .f64)) (.cons (.tv 5 false (.int .i64)) (.cons (.tv 2 false (.cx .f32)) .nil))) [((.exit 0), (.cons (.tv 4 false (.fl .f64)) (.cons (.tv 5 false (.int .i64)) (.cons (.tv 2 false (.cx .f32)) .nil))))] 0 0 (W_impl_PhasorOf_0 M)
def c0_impl_PhasorOf (M : FOps) (a0 : Nat) : Nat := p_math_NaN M
def c1_impl_PhasorOf (M : FOps) (a0 : Nat) : Nat := M.nar (c0_impl_PhasorOf M a0)
def c2_impl_PhasorOf (M : FOps) (a0 : Nat) : Option (Nat × Int × (Nat × Nat) × Unit) := W_impl_PhasorOf_0 M (p_impl_fraction M a0, 0, (0, 0), ())
def c3_impl_PhasorOf (M : FOps) (a0 : Nat) : Nat := p_impl_sine M ((c2_impl_PhasorOf M a0).getD (0, 0, (0, 0), ())).fst
def c4_impl_PhasorOf (M : FOps) (a0 : Nat) : Nat := M.bin BinOp.sub FloatKind.f64 0 (c3_impl_PhasorOf M a0)
def c5_impl_PhasorOf (M : FOps) (a0 : Nat) : Bool := M.narOk (c4_impl_PhasorOf M a0)
def c6_impl_PhasorOf (M : FOps) (a0 : Nat) : Nat := p_impl_sine M (M.bin BinOp.sub FloatKind.f64 4598175219545276416 ((c2_impl_PhasorOf M a0).getD (0, 0, (0, 0), ())).fst)
def c7_impl_PhasorOf (M : FOps) (a0 : Nat) : Bool := M.narOk (c6_impl_PhasorOf M a0)
def c8_impl_PhasorOf (M : FOps) (a0 : Nat) : Nat := M.nar (c4_impl_PhasorOf M a0)
def c9_impl_PhasorOf (M : FOps) (a0 : Nat) : Nat := M.nar (c6_impl_PhasorOf M a0)
def c10_impl_PhasorOf (M : FOps) (a0 : Nat) : Nat := M.bin BinOp.sub FloatKind.f64 0 (c6_impl_PhasorOf M a0)
def c11_impl_PhasorOf (M : FOps) (a0 : Nat) : Bool := M.narOk (c10_impl_PhasorOf M a0)
def c12_impl_PhasorOf (M : FOps) (a0 : Nat) : Nat := M.nar (c10_impl_PhasorOf M a0)
def c13_impl_PhasorOf (M : FOps) (a0 : Nat) : Bool := M.narOk (c3_impl_PhasorOf M a0)
def c14_impl_PhasorOf (M : FOps) (a0 : Nat) : Nat := M.nar (c3_impl_PhasorOf M a0)
def F_impl_PhasorOf (r : Nat × Nat) : AS.Ty (.cons (.one (.cx .f32)) .nil) × List CS := (((r.1, r.2), ()), [])
def p_impl_PhasorOf (M : FOps) (a0 : Nat) : Nat × Nat :=
  (bif !p_impl_isFinite M a0 then ((c1_impl_PhasorOf M a0), (c1_impl_PhasorOf M a0)) else (bif M.cmp BinOp.geq FloatKind.f64 (M.abs a0) 4841369599423283200 then (1065353216, 0) else (bif ((c2_impl_PhasorOf M a0).getD (0, 0, (0, 0), ())).snd.fst == 1 then ((c8_impl_PhasorOf M a0), (c9_impl_PhasorOf M a0)) else (bif ((c2_impl_PhasorOf M a0).getD (0, 0, (0, 0), ())).snd.fst == 2 then ((c12_impl_PhasorOf M a0), (c8_impl_PhasorOf M a0)) else (bif ((c2_impl_PhasorOf M a0).getD (0, 0, (0, 0), ())).snd.fst == 3 then ((c14_impl_PhasorOf M a0), (c12_impl_PhasorOf M a0)) else ((c9_impl_PhasorOf M a0), (c14_impl_PhasorOf M a0)))))))
def r_impl_PhasorOf (M : FOps) (a0 : Nat) : Bool :=
  (bif !p_impl_isFinite M a0 then ((M.narOk (c0_impl_PhasorOf M a0)) && true) else (bif M.cmp BinOp.geq FloatKind.f64 (M.abs a0) 4841369599423283200 then true else (((c2_impl_PhasorOf M a0).isSome) && (bif ((c2_impl_PhasorOf M a0).getD (0, 0, (0, 0), ())).snd.fst == 1 then (((c5_impl_PhasorOf M a0)) && (((c7_impl_PhasorOf M a0)) && true)) else (bif ((c2_impl_PhasorOf M a0).getD (0, 0, (0, 0), ())).snd.fst == 2 then (((c11_impl_PhasorOf M a0)) && (((c5_impl_PhasorOf M a0)) && true)) else (bif ((c2_impl_PhasorOf M a0).getD (0, 0, (0, 0), ())).snd.fst == 3 then (((c13_impl_PhasorOf M a0)) && (((c11_impl_PhasorOf M a0)) && true)) else (((c7_impl_PhasorOf M a0)) && (((c13_impl_PhasorOf M a0)) && true))))))))
def S_impl_PhasorOf (M : FOps) : FSpec := mkSpec (.cons (.one (.fl .f64)) .nil) (.cons (.one (.cx .f32)) .nil) (fun x => r_impl_PhasorOf M x.1) (fun x => F_impl_PhasorOf (p_impl_PhasorOf M x.1))

def c0_impl_Map_ring (M : FOps) (a0_0 : Int) (a0_1 : Nat) (a0_2 : Nat) (a0_3 : Nat) (a1 : Nat) : Nat := M.bin BinOp.quo FloatKind.f32 a1 1073741824
def c1_impl_Map_ring (M : FOps) (a0_0 : Int) (a0_1 : Nat) (a0_2 : Nat) (a0_3 : Nat) (a1 : Nat) : Nat := p_impl_SineTurns M (c0_impl_Map_ring M a0_0 a0_1 a0_2 a0_3 a1)
def F_impl_Map_ring (r : Nat × Bool) : AS.Ty (.cons (.one (.fl .f32)) (.cons (.one .bool) .nil)) × List CS := ((r.1, (r.2, ())), [])
def p_impl_Map_ring (M : FOps) (a0_0 : Int) (a0_1 : Nat) (a0_2 : Nat) (a0_3 : Nat) (a1 : Nat) : Nat × Bool :=
  (bif a0_0 == 4 then (M.bin BinOp.mul FloatKind.f32 1073741824 (M.bin BinOp.quo FloatKind.f32 (c1_impl_Map_ring M a0_0 a0_1 a0_2 a0_3 a1) (p_impl_cosine M (c0_impl_Map_ring M a0_0 a0_1 a0_2 a0_3 a1))), M.cmp BinOp.leq FloatKind.f32 a1 1055286886) else (bif a0_0 == 5 then (M.bin BinOp.mul FloatKind.f32 1073741824 (c1_impl_Map_ring M a0_0 a0_1 a0_2 a0_3 a1), true) else (M.bin BinOp.mul FloatKind.f32 1086918619 a1, true)))
def S_impl_Map_ring (M : FOps) : FSpec := mkSpec (.cons (.agg (.pair (.int .i64) (.pair (.pair (.fl .f32) (.fl .f32)) (.fl .f32)))) (.cons (.one (.fl .f32)) .nil)) (.cons (.one (.fl .f32)) (.cons (.one .bool) .nil)) (fun _ => true) (fun x => F_impl_Map_ring (p_impl_Map_ring M x.1.1 x.1.2.1.1 x.1.2.1.2 x.1.2.2 x.2.1))

def c0_spec_l03Point (M : FOps) (a0_0 : Int) (a0_1 : Nat) (a0_2 : Nat) (a0_3 : Nat) (a1_0 : Nat) (a1_1 : Nat) : Nat := p_spec_l03Round M (p_spec_l02Wrap M (M.bin BinOp.sub FloatKind.f32 a1_1 a0_2))
def c1_spec_l03Point (M : FOps) (a0_0 : Int) (a0_1 : Nat) (a0_2 : Nat) (a0_3 : Nat) (a1_0 : Nat) (a1_1 : Nat) : Nat := p_spec_l02Cosine M a0_3
def c2_spec_l03Point (M : FOps) (a0_0 : Int) (a0_1 : Nat) (a0_2 : Nat) (a0_3 : Nat) (a1_0 : Nat) (a1_1 : Nat) : Nat := p_spec_l03Round M a1_0
def c3_spec_l03Point (M : FOps) (a0_0 : Int) (a0_1 : Nat) (a0_2 : Nat) (a0_3 : Nat) (a1_0 : Nat) (a1_1 : Nat) : Nat × Nat × Bool := p_spec_l03Number M (M.bin BinOp.mul FloatKind.f32 (c0_spec_l03Point M a0_0 a0_1 a0_2 a0_3 a1_0 a1_1) (c1_spec_l03Point M a0_0 a0_1 a0_2 a0_3 a1_0 a1_1)) (c2_spec_l03Point M a0_0 a0_1 a0_2 a0_3 a1_0 a1_1)
def c4_spec_l03Point (M : FOps) (a0_0 : Int) (a0_1 : Nat) (a0_2 : Nat) (a0_3 : Nat) (a1_0 : Nat) (a1_1 : Nat) : Nat × Bool := p_spec_l02Stretch M a1_0
def c5_spec_l03Point (M : FOps) (a0_0 : Int) (a0_1 : Nat) (a0_2 : Nat) (a0_3 : Nat) (a1_0 : Nat) (a1_1 : Nat) : Nat × Nat × Bool := p_spec_l03Number M (c0_spec_l03Point M a0_0 a0_1 a0_2 a0_3 a1_0 a1_1) (p_spec_l03Round M (c4_spec_l03Point M a0_0 a0_1 a0_2 a0_3 a1_0 a1_1).fst)
def c6_spec_l03Point (M : FOps) (a0_0 : Int) (a0_1 : Nat) (a0_2 : Nat) (a0_3 : Nat) (a1_0 : Nat) (a1_1 : Nat) : Nat × Nat × Bool := p_spec_l03Number M (M.bin BinOp.mul FloatKind.f32 (c0_spec_l03Point M a0_0 a0_1 a0_2 a0_3 a1_0 a1_1) (c1_spec_l03Point M a0_0 a0_1 a0_2 a0_3 a1_0 a1_1)) (M.bin BinOp.quo FloatKind.f32 (p_spec_l01Sine M a1_0) (c1_spec_l03Point M a0_0 a0_1 a0_2 a0_3 a1_0 a1_1))
def c7_spec_l03Point (M : FOps) (a0_0 : Int) (a0_1 : Nat) (a0_2 : Nat) (a0_3 : Nat) (a1_0 : Nat) (a1_1 : Nat) : Nat × Nat × Bool := p_spec_l03Number M (M.bin BinOp.mul FloatKind.f32 (c0_spec_l03Point M a0_0 a0_1 a0_2 a0_3 a1_0 a1_1) (p_spec_l02Cosine M a1_0)) (c2_spec_l03Point M a0_0 a0_1 a0_2 a0_3 a1_0 a1_1)
def c8_spec_l03Point (M : FOps) (a0_0 : Int) (a0_1 : Nat) (a0_2 : Nat) (a0_3 : Nat) (a1_0 : Nat) (a1_1 : Nat) : Nat := p_spec_l02Apart M a0_1 a0_2 a1_0 a1_1
def c9_spec_l03Point (M : FOps) (a0_0 : Int) (a0_1 : Nat) (a0_2 : Nat) (a0_3 : Nat) (a1_0 : Nat) (a1_1 : Nat) : Nat := M.wid (M.bin BinOp.sub FloatKind.f32 1048576000 (p_spec_l02Course M a0_1 a0_2 a1_0 a1_1))
def c10_spec_l03Point (M : FOps) (a0_0 : Int) (a0_1 : Nat) (a0_2 : Nat) (a0_3 : Nat) (a1_0 : Nat) (a1_1 : Nat) : Nat × Nat := p_spec_l01Phasor M (c9_spec_l03Point M a0_0 a0_1 a0_2 a0_3 a1_0 a1_1)
def c11_spec_l03Point (M : FOps) (a0_0 : Int) (a0_1 : Nat) (a0_2 : Nat) (a0_3 : Nat) (a1_0 : Nat) (a1_1 : Nat) : Nat := M.bin BinOp.mul FloatKind.f32 1056964608 (c8_spec_l03Point M a0_0 a0_1 a0_2 a0_3 a1_0 a1_1)
def c12_spec_l03Point (M : FOps) (a0_0 : Int) (a0_1 : Nat) (a0_2 : Nat) (a0_3 : Nat) (a1_0 : Nat) (a1_1 : Nat) : Nat := p_spec_l01Sine M (c11_spec_l03Point M a0_0 a0_1 a0_2 a0_3 a1_0 a1_1)
def c13_spec_l03Point (M : FOps) (a0_0 : Int) (a0_1 : Nat) (a0_2 : Nat) (a0_3 : Nat) (a1_0 : Nat) (a1_1 : Nat) : Nat × Nat := p_spec_l01Scale M (c10_spec_l03Point M a0_0 a0_1 a0_2 a0_3 a1_0 a1_1).fst (c10_spec_l03Point M a0_0 a0_1 a0_2 a0_3 a1_0 a1_1).snd (M.bin BinOp.mul FloatKind.f32 1073741824 (M.bin BinOp.quo FloatKind.f32 (c12_spec_l03Point M a0_0 a0_1 a0_2 a0_3 a1_0 a1_1) (p_spec_l02Cosine M (c11_spec_l03Point M a0_0 a0_1 a0_2 a0_3 a1_0 a1_1))))
def c14_spec_l03Point (M : FOps) (a0_0 : Int) (a0_1 : Nat) (a0_2 : Nat) (a0_3 : Nat) (a1_0 : Nat) (a1_1 : Nat) : Nat × Nat × Bool := p_spec_l03Number M (c13_spec_l03Point M a0_0 a0_1 a0_2 a0_3 a1_0 a1_1).fst (c13_spec_l03Point M a0_0 a0_1 a0_2 a0_3 a1_0 a1_1).snd
def c15_spec_l03Point (M : FOps) (a0_0 : Int) (a0_1 : Nat) (a0_2 : Nat) (a0_3 : Nat) (a1_0 : Nat) (a1_1 : Nat) : Nat × Nat := p_spec_l01Scale M (c10_spec_l03Point M a0_0 a0_1 a0_2 a0_3 a1_0 a1_1).fst (c10_spec_l03Point M a0_0 a0_1 a0_2 a0_3 a1_0 a1_1).snd (M.bin BinOp.mul FloatKind.f32 1073741824 (c12_spec_l03Point M a0_0 a0_1 a0_2 a0_3 a1_0 a1_1))
def c16_spec_l03Point (M : FOps) (a0_0 : Int) (a0_1 : Nat) (a0_2 : Nat) (a0_3 : Nat) (a1_0 : Nat) (a1_1 : Nat) : Nat × Nat × Bool := p_spec_l03Number M (c15_spec_l03Point M a0_0 a0_1 a0_2 a0_3 a1_0 a1_1).fst (c15_spec_l03Point M a0_0 a0_1 a0_2 a0_3 a1_0 a1_1).snd
def c17_spec_l03Point (M : FOps) (a0_0 : Int) (a0_1 : Nat) (a0_2 : Nat) (a0_3 : Nat) (a1_0 : Nat) (a1_1 : Nat) : Nat × Nat := p_spec_l01Scale M (c10_spec_l03Point M a0_0 a0_1 a0_2 a0_3 a1_0 a1_1).fst (c10_spec_l03Point M a0_0 a0_1 a0_2 a0_3 a1_0 a1_1).snd (p_spec_l03Round M (c8_spec_l03Point M a0_0 a0_1 a0_2 a0_3 a1_0 a1_1))
def c18_spec_l03Point (M : FOps) (a0_0 : Int) (a0_1 : Nat) (a0_2 : Nat) (a0_3 : Nat) (a1_0 : Nat) (a1_1 : Nat) : Nat × Nat × Bool := p_spec_l03Number M (c17_spec_l03Point M a0_0 a0_1 a0_2 a0_3 a1_0 a1_1).fst (c17_spec_l03Point M a0_0 a0_1 a0_2 a0_3 a1_0 a1_1).snd
def F_spec_l03Point (r : Nat × Nat × Bool) : AS.Ty (.cons (.one (.cx .f32)) (.cons (.one .bool) .nil)) × List CS := (((r.1, r.2.1), (r.2.2, ())), [])
def p_spec_l03Point (M : FOps) (a0_0 : Int) (a0_1 : Nat) (a0_2 : Nat) (a0_3 : Nat) (a1_0 : Nat) (a1_1 : Nat) : Nat × Nat × Bool :=
  (bif a0_0 == 0 then ((c3_spec_l03Point M a0_0 a0_1 a0_2 a0_3 a1_0 a1_1).fst, (c3_spec_l03Point M a0_0 a0_1 a0_2 a0_3 a1_0 a1_1).snd.fst, (c3_spec_l03Point M a0_0 a0_1 a0_2 a0_3 a1_0 a1_1).snd.snd) else (bif a0_0 == 1 then (bif !(c4_spec_l03Point M a0_0 a0_1 a0_2 a0_3 a1_0 a1_1).snd then (0, 0, false) else ((c5_spec_l03Point M a0_0 a0_1 a0_2 a0_3 a1_0 a1_1).fst, (c5_spec_l03Point M a0_0 a0_1 a0_2 a0_3 a1_0 a1_1).snd.fst, (c5_spec_l03Point M a0_0 a0_1 a0_2 a0_3 a1_0 a1_1).snd.snd)) else (bif a0_0 == 2 then ((c6_spec_l03Point M a0_0 a0_1 a0_2 a0_3 a1_0 a1_1).fst, (c6_spec_l03Point M a0_0 a0_1 a0_2 a0_3 a1_0 a1_1).snd.fst, (c6_spec_l03Point M a0_0 a0_1 a0_2 a0_3 a1_0 a1_1).snd.snd) else (bif a0_0 == 3 then ((c7_spec_l03Point M a0_0 a0_1 a0_2 a0_3 a1_0 a1_1).fst, (c7_spec_l03Point M a0_0 a0_1 a0_2 a0_3 a1_0 a1_1).snd.fst, (c7_spec_l03Point M a0_0 a0_1 a0_2 a0_3 a1_0 a1_1).snd.snd) else (bif a0_0 == 4 then (bif !M.cmp BinOp.leq FloatKind.f32 (c8_spec_l03Point M a0_0 a0_1 a0_2 a0_3 a1_0 a1_1) 1055286886 then (0, 0, false) else ((c14_spec_l03Point M a0_0 a0_1 a0_2 a0_3 a1_0 a1_1).fst, (c14_spec_l03Point M a0_0 a0_1 a0_2 a0_3 a1_0 a1_1).snd.fst, (c14_spec_l03Point M a0_0 a0_1 a0_2 a0_3 a1_0 a1_1).snd.snd)) else (bif a0_0 == 5 then ((c16_spec_l03Point M a0_0 a0_1 a0_2 a0_3 a1_0 a1_1).fst, (c16_spec_l03Point M a0_0 a0_1 a0_2 a0_3 a1_0 a1_1).snd.fst, (c16_spec_l03Point M a0_0 a0_1 a0_2 a0_3 a1_0 a1_1).snd.snd) else ((c18_spec_l03Point M a0_0 a0_1 a0_2 a0_3 a1_0 a1_1).fst, (c18_spec_l03Point M a0_0 a0_1 a0_2 a0_3 a1_0 a1_1).snd.fst, (c18_spec_l03Point M a0_0 a0_1 a0_2 a0_3 a1_0 a1_1).snd.snd)))))))
def r_spec_l03Point (M : FOps) (a0_0 : Int) (a0_1 : Nat) (a0_2 : Nat) (a0_3 : Nat) (a1_0 : Nat) (a1_1 : Nat) : Bool :=
  (bif a0_0 == 0 then true else (bif a0_0 == 1 then ((r_spec_l02Stretch M a1_0) && true) else (bif a0_0 == 2 then true else (bif a0_0 == 3 then true else (bif a0_0 == 4 then (bif !M.cmp BinOp.leq FloatKind.f32 (c8_spec_l03Point M a0_0 a0_1 a0_2 a0_3 a1_0 a1_1) 1055286886 then true else ((r_spec_l01Phasor M (c9_spec_l03Point M a0_0 a0_1 a0_2 a0_3 a1_0 a1_1)) && true)) else (bif a0_0 == 5 then ((r_spec_l01Phasor M (c9_spec_l03Point M a0_0 a0_1 a0_2 a0_3 a1_0 a1_1)) && true) else ((r_spec_l01Phasor M (c9_spec_l03Point M a0_0 a0_1 a0_2 a0_3 a1_0 a1_1)) && true)))))))
def S_spec_l03Point (M : FOps) : FSpec := mkSpec (.cons (.ptr (.pair (.int .i64) (.pair (.pair (.fl .f32) (.fl .f32)) (.fl .f32)))) (.cons (.agg (.pair (.fl .f32) (.fl .f32))) .nil)) (.cons (.one (.cx .f32)) (.cons (.one .bool) .nil)) (fun x => r_spec_l03Point M x.1.1 x.1.2.1.1 x.1.2.1.2 x.1.2.2 x.2.1.1 x.2.1.2) (fun x => F_spec_l03Point (p_spec_l03Point M x.1.1 x.1.2.1.1 x.1.2.1.2 x.1.2.2 x.2.1.1 x.2.1.2))

def c0_impl_Map_point (M : FOps) (a0_0 : Int) (a0_1 : Nat) (a0_2 : Nat) (a0_3 : Nat) (a1_0 : Nat) (a1_1 : Nat) : Nat := M.bin BinOp.mul FloatKind.f32 1086918619 (p_impl_wrap M (M.bin BinOp.sub FloatKind.f32 a1_1 a0_2))
def c1_impl_Map_point (M : FOps) (a0_0 : Int) (a0_1 : Nat) (a0_2 : Nat) (a0_3 : Nat) (a1_0 : Nat) (a1_1 : Nat) : Nat := p_impl_cosine M a0_3
def c2_impl_Map_point (M : FOps) (a0_0 : Int) (a0_1 : Nat) (a0_2 : Nat) (a0_3 : Nat) (a1_0 : Nat) (a1_1 : Nat) : Nat := M.bin BinOp.mul FloatKind.f32 1086918619 a1_0
def c3_impl_Map_point (M : FOps) (a0_0 : Int) (a0_1 : Nat) (a0_2 : Nat) (a0_3 : Nat) (a1_0 : Nat) (a1_1 : Nat) : Nat × Nat × Bool := p_impl_finitePoint M (M.bin BinOp.mul FloatKind.f32 (c0_impl_Map_point M a0_0 a0_1 a0_2 a0_3 a1_0 a1_1) (c1_impl_Map_point M a0_0 a0_1 a0_2 a0_3 a1_0 a1_1)) (c2_impl_Map_point M a0_0 a0_1 a0_2 a0_3 a1_0 a1_1) true
def c4_impl_Map_point (M : FOps) (a0_0 : Int) (a0_1 : Nat) (a0_2 : Nat) (a0_3 : Nat) (a1_0 : Nat) (a1_1 : Nat) : Nat × Bool := p_impl_StretchNorth M a1_0
def c5_impl_Map_point (M : FOps) (a0_0 : Int) (a0_1 : Nat) (a0_2 : Nat) (a0_3 : Nat) (a1_0 : Nat) (a1_1 : Nat) : Nat × Nat × Bool := p_impl_finitePoint M (c0_impl_Map_point M a0_0 a0_1 a0_2 a0_3 a1_0 a1_1) (M.bin BinOp.mul FloatKind.f32 1086918619 (c4_impl_Map_point M a0_0 a0_1 a0_2 a0_3 a1_0 a1_1).fst) (c4_impl_Map_point M a0_0 a0_1 a0_2 a0_3 a1_0 a1_1).snd
def c6_impl_Map_point (M : FOps) (a0_0 : Int) (a0_1 : Nat) (a0_2 : Nat) (a0_3 : Nat) (a1_0 : Nat) (a1_1 : Nat) : Nat × Nat × Bool := p_impl_finitePoint M (M.bin BinOp.mul FloatKind.f32 (c0_impl_Map_point M a0_0 a0_1 a0_2 a0_3 a1_0 a1_1) (c1_impl_Map_point M a0_0 a0_1 a0_2 a0_3 a1_0 a1_1)) (M.bin BinOp.quo FloatKind.f32 (p_impl_SineTurns M a1_0) (c1_impl_Map_point M a0_0 a0_1 a0_2 a0_3 a1_0 a1_1)) true
def c7_impl_Map_point (M : FOps) (a0_0 : Int) (a0_1 : Nat) (a0_2 : Nat) (a0_3 : Nat) (a1_0 : Nat) (a1_1 : Nat) : Nat × Nat × Bool := p_impl_finitePoint M (M.bin BinOp.mul FloatKind.f32 (c0_impl_Map_point M a0_0 a0_1 a0_2 a0_3 a1_0 a1_1) (p_impl_cosine M a1_0)) (c2_impl_Map_point M a0_0 a0_1 a0_2 a0_3 a1_0 a1_1) true
def c8_impl_Map_point (M : FOps) (a0_0 : Int) (a0_1 : Nat) (a0_2 : Nat) (a0_3 : Nat) (a1_0 : Nat) (a1_1 : Nat) : Nat × Bool := p_impl_CourseTo M a0_1 a0_2 a1_0 a1_1
def c9_impl_Map_point (M : FOps) (a0_0 : Int) (a0_1 : Nat) (a0_2 : Nat) (a0_3 : Nat) (a1_0 : Nat) (a1_1 : Nat) : Nat := M.wid (M.bin BinOp.sub FloatKind.f32 1048576000 (c8_impl_Map_point M a0_0 a0_1 a0_2 a0_3 a1_0 a1_1).fst)
def c10_impl_Map_point (M : FOps) (a0_0 : Int) (a0_1 : Nat) (a0_2 : Nat) (a0_3 : Nat) (a1_0 : Nat) (a1_1 : Nat) : Nat × Bool := p_impl_ApartOf M a0_1 a0_2 a1_0 a1_1
def c11_impl_Map_point (M : FOps) (a0_0 : Int) (a0_1 : Nat) (a0_2 : Nat) (a0_3 : Nat) (a1_0 : Nat) (a1_1 : Nat) : Nat × Nat := p_impl_PhasorOf M (c9_impl_Map_point M a0_0 a0_1 a0_2 a0_3 a1_0 a1_1)
def c12_impl_Map_point (M : FOps) (a0_0 : Int) (a0_1 : Nat) (a0_2 : Nat) (a0_3 : Nat) (a1_0 : Nat) (a1_1 : Nat) : Nat × Bool := p_impl_Map_ring M a0_0 a0_1 a0_2 a0_3 (c10_impl_Map_point M a0_0 a0_1 a0_2 a0_3 a1_0 a1_1).fst
def c13_impl_Map_point (M : FOps) (a0_0 : Int) (a0_1 : Nat) (a0_2 : Nat) (a0_3 : Nat) (a1_0 : Nat) (a1_1 : Nat) : Nat × Nat := p_impl_ScaleComplex M (c11_impl_Map_point M a0_0 a0_1 a0_2 a0_3 a1_0 a1_1).fst (c11_impl_Map_point M a0_0 a0_1 a0_2 a0_3 a1_0 a1_1).snd (c12_impl_Map_point M a0_0 a0_1 a0_2 a0_3 a1_0 a1_1).fst
def c14_impl_Map_point (M : FOps) (a0_0 : Int) (a0_1 : Nat) (a0_2 : Nat) (a0_3 : Nat) (a1_0 : Nat) (a1_1 : Nat) : Nat × Nat × Bool := p_impl_finitePoint M (c13_impl_Map_point M a0_0 a0_1 a0_2 a0_3 a1_0 a1_1).fst (c13_impl_Map_point M a0_0 a0_1 a0_2 a0_3 a1_0 a1_1).snd (c12_impl_Map_point M a0_0 a0_1 a0_2 a0_3 a1_0 a1_1).snd
def c15_impl_Map_point (M : FOps) (a0_0 : Int) (a0_1 : Nat) (a0_2 : Nat) (a0_3 : Nat) (a1_0 : Nat) (a1_1 : Nat) : Nat × Nat × Bool := p_impl_finitePoint M (c13_impl_Map_point M a0_0 a0_1 a0_2 a0_3 a1_0 a1_1).fst (c13_impl_Map_point M a0_0 a0_1 a0_2 a0_3 a1_0 a1_1).snd false
def F_impl_Map_point (r : Nat × Nat × Bool) : AS.Ty (.cons (.one (.cx .f32)) (.cons (.one .bool) .nil)) × List CS := (((r.1, r.2.1), (r.2.2, ())), [])
def p_impl_Map_point (M : FOps) (a0_0 : Int) (a0_1 : Nat) (a0_2 : Nat) (a0_3 : Nat) (a1_0 : Nat) (a1_1 : Nat) : Nat × Nat × Bool :=
  (bif a0_0 == 0 then ((c3_impl_Map_point M a0_0 a0_1 a0_2 a0_3 a1_0 a1_1).fst, (c3_impl_Map_point M a0_0 a0_1 a0_2 a0_3 a1_0 a1_1).snd.fst, (c3_impl_Map_point M a0_0 a0_1 a0_2 a0_3 a1_0 a1_1).snd.snd) else (bif a0_0 == 1 then ((c5_impl_Map_point M a0_0 a0_1 a0_2 a0_3 a1_0 a1_1).fst, (c5_impl_Map_point M a0_0 a0_1 a0_2 a0_3 a1_0 a1_1).snd.fst, (c5_impl_Map_point M a0_0 a0_1 a0_2 a0_3 a1_0 a1_1).snd.snd) else (bif a0_0 == 2 then ((c6_impl_Map_point M a0_0 a0_1 a0_2 a0_3 a1_0 a1_1).fst, (c6_impl_Map_point M a0_0 a0_1 a0_2 a0_3 a1_0 a1_1).snd.fst, (c6_impl_Map_point M a0_0 a0_1 a0_2 a0_3 a1_0 a1_1).snd.snd) else (bif a0_0 == 3 then ((c7_impl_Map_point M a0_0 a0_1 a0_2 a0_3 a1_0 a1_1).fst, (c7_impl_Map_point M a0_0 a0_1 a0_2 a0_3 a1_0 a1_1).snd.fst, (c7_impl_Map_point M a0_0 a0_1 a0_2 a0_3 a1_0 a1_1).snd.snd) else (bif (c10_impl_Map_point M a0_0 a0_1 a0_2 a0_3 a1_0 a1_1).snd then (bif (c8_impl_Map_point M a0_0 a0_1 a0_2 a0_3 a1_0 a1_1).snd then ((c14_impl_Map_point M a0_0 a0_1 a0_2 a0_3 a1_0 a1_1).fst, (c14_impl_Map_point M a0_0 a0_1 a0_2 a0_3 a1_0 a1_1).snd.fst, (c14_impl_Map_point M a0_0 a0_1 a0_2 a0_3 a1_0 a1_1).snd.snd) else ((c15_impl_Map_point M a0_0 a0_1 a0_2 a0_3 a1_0 a1_1).fst, (c15_impl_Map_point M a0_0 a0_1 a0_2 a0_3 a1_0 a1_1).snd.fst, (c15_impl_Map_point M a0_0 a0_1 a0_2 a0_3 a1_0 a1_1).snd.snd)) else ((c15_impl_Map_point M a0_0 a0_1 a0_2 a0_3 a1_0 a1_1).fst, (c15_impl_Map_point M a0_0 a0_1 a0_2 a0_3 a1_0 a1_1).snd.fst, (c15_impl_Map_point M a0_0 a0_1 a0_2 a0_3 a1_0 a1_1).snd.snd))))))
def r_impl_Map_point (M : FOps) (a0_0 : Int) (a0_1 : Nat) (a0_2 : Nat) (a0_3 : Nat) (a1_0 : Nat) (a1_1 : Nat) : Bool :=
  (bif a0_0 == 0 then true else (bif a0_0 == 1 then ((r_impl_StretchNorth M a1_0) && true) else (bif a0_0 == 2 then true else (bif a0_0 == 3 then true else ((r_impl_PhasorOf M (c9_impl_Map_point M a0_0 a0_1 a0_2 a0_3 a1_0 a1_1)) && true)))))
def S_impl_Map_point (M : FOps) : FSpec := mkSpec (.cons (.agg (.pair (.int .i64) (.pair (.pair (.fl .f32) (.fl .f32)) (.fl .f32)))) (.cons (.agg (.pair (.fl .f32) (.fl .f32))) .nil)) (.cons (.one (.cx .f32)) (.cons (.one .bool) .nil)) (fun x => r_impl_Map_point M x.1.1 x.1.2.1.1 x.1.2.1.2 x.1.2.2 x.2.1.1 x.2.1.2) (fun x => F_impl_Map_point (p_impl_Map_point M x.1.1 x.1.2.1.1 x.1.2.1.2 x.1.2.2 x.2.1.1 x.2.1.2))

def c0_spec_PointOf (M : FOps) (a0_0 : Int) (a0_1 : Nat) (a0_2 : Nat) (a0_3 : Nat) (a1_0 : Nat) (a1_1 : Nat) : Nat × Nat × Bool := p_spec_l03Point M a0_0 a0_1 a0_2 a0_3 a1_0 a1_1
def p_spec_PointOf (M : FOps) (a0_0 : Int) (a0_1 : Nat) (a0_2 : Nat) (a0_3 : Nat) (a1_0 : Nat) (a1_1 : Nat) : Nat × Nat × Bool :=
  (bif !p_spec_l03Is M a0_0 a0_1 a0_2 a0_3 then (0, 0, false) else (bif !p_spec_l02Is M a1_0 a1_1 then (0, 0, false) else ((c0_spec_PointOf M a0_0 a0_1 a0_2 a0_3 a1_0 a1_1).fst, (c0_spec_PointOf M a0_0 a0_1 a0_2 a0_3 a1_0 a1_1).snd.fst, (c0_spec_PointOf M a0_0 a0_1 a0_2 a0_3 a1_0 a1_1).snd.snd)))
def r_spec_PointOf (M : FOps) (a0_0 : Int) (a0_1 : Nat) (a0_2 : Nat) (a0_3 : Nat) (a1_0 : Nat) (a1_1 : Nat) : Bool :=
  (bif !p_spec_l03Is M a0_0 a0_1 a0_2 a0_3 then true else (bif !p_spec_l02Is M a1_0 a1_1 then true else ((r_spec_l03Point M a0_0 a0_1 a0_2 a0_3 a1_0 a1_1) && true)))
def c0_impl_PointOf (M : FOps) (a0_0 : Int) (a0_1 : Nat) (a0_2 : Nat) (a0_3 : Nat) (a1_0 : Nat) (a1_1 : Nat) : Nat × Nat × Bool := p_impl_Map_point M a0_0 a0_1 a0_2 a0_3 a1_0 a1_1
def F_impl_PointOf (r : Nat × Nat × Bool) : AS.Ty (.cons (.one (.cx .f32)) (.cons (.one .bool) .nil)) × List CS := (((r.1, r.2.1), (r.2.2, ())), [])
def p_impl_PointOf (M : FOps) (a0_0 : Int) (a0_1 : Nat) (a0_2 : Nat) (a0_3 : Nat) (a1_0 : Nat) (a1_1 : Nat) : Nat × Nat × Bool :=
  (bif !p_impl_ValidMap M a0_0 a0_1 a0_2 a0_3 then (0, 0, false) else (bif !p_impl_ValidPlace M a1_0 a1_1 then (0, 0, false) else ((c0_impl_PointOf M a0_0 a0_1 a0_2 a0_3 a1_0 a1_1).fst, (c0_impl_PointOf M a0_0 a0_1 a0_2 a0_3 a1_0 a1_1).snd.fst, (c0_impl_PointOf M a0_0 a0_1 a0_2 a0_3 a1_0 a1_1).snd.snd)))
def r_impl_PointOf (M : FOps) (a0_0 : Int) (a0_1 : Nat) (a0_2 : Nat) (a0_3 : Nat) (a1_0 : Nat) (a1_1 : Nat) : Bool :=
  (bif !p_impl_ValidMap M a0_0 a0_1 a0_2 a0_3 then true else (bif !p_impl_ValidPlace M a1_0 a1_1 then true else ((r_impl_Map_point M a0_0 a0_1 a0_2 a0_3 a1_0 a1_1) && true)))
def S_impl_PointOf (M : FOps) : FSpec := mkSpec (.cons (.agg (.pair (.int .i64) (.pair (.pair (.fl .f32) (.fl .f32)) (.fl .f32)))) (.cons (.agg (.pair (.fl .f32) (.fl .f32))) .nil)) (.cons (.one (.cx .f32)) (.cons (.one .bool) .nil)) (fun x => r_impl_PointOf M x.1.1 x.1.2.1.1 x.1.2.1.2 x.1.2.2 x.2.1.1 x.2.1.2) (fun x => F_impl_PointOf (p_impl_PointOf M x.1.1 x.1.2.1.1 x.1.2.1.2 x.1.2.2 x.2.1.1 x.2.1.2))

end
end Go.Dv

/- Printed by gen2.py. -/
set_option linter.unusedVariables false
set_option linter.unusedSimpArgs false

-- GENERATED BELOW (gen.py)
namespace Go.Dv
open Go.Cv
noncomputable section
end
end Go.Dv
