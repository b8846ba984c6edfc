/- Printed by gen2.py. -/
import Derived.Test.YtjohfkfpfjdceaaGreatDoorWlb
import Derived.Test.YtjohfkfpfjdceaaGreatDoorYq
import Derived.Test.YtjohfkfpfjdceaaGreatDoorLra

set_option linter.unusedVariables false
set_option linter.unusedSimpArgs false

-- GENERATED BELOW (gen.py)
namespace Go.Dv
open Go.Cv
noncomputable section
def F_spec_SameNumber (r : Bool) : AS.Ty (.cons (.one .bool) .nil) × List CS := ((r, ()), [])
def p_spec_SameNumber (M : FOps) (a0 : Nat) (a1 : Nat) : Bool :=
  p_spec_l01Same M a0 a1
def r_spec_SameNumber (M : FOps) (a0 : Nat) (a1 : Nat) : Bool :=
  ((r_spec_l01Same M a0 a1) && true)
def S_spec_SameNumber (M : FOps) : FSpec := mkSpec (.cons (.one (.fl .f32)) (.cons (.one (.fl .f32)) .nil)) (.cons (.one .bool) .nil) (fun x => r_spec_SameNumber M x.1 x.2.1) (fun x => F_spec_SameNumber (p_spec_SameNumber M x.1 x.2.1))

def F_laws_b10Long (r : Bool) : AS.Ty (.cons (.one .bool) .nil) × List CS := ((r, ()), [])
def p_laws_b10Long (M : FOps) (a0 : (List Int)) (a1 : (List Int)) : Bool :=
  (bif decide ((↑a0.length : Int) > 1048576) then true else decide ((↑a1.length : Int) > 1048576))
def S_laws_b10Long (M : FOps) : FSpec := mkSpec (.cons (.one (.ls (.int .u8))) (.cons (.one (.ls (.int .u8))) .nil)) (.cons (.one .bool) .nil) (fun _ => true) (fun x => F_laws_b10Long (p_laws_b10Long M x.1 x.2.1))

def F_laws_b10At (r : Int) : AS.Ty (.cons (.one (.int .i64)) .nil) × List CS := ((r, ()), [])
def p_laws_b10At (M : FOps) (a0 : (List Int)) (a1 : Int) (a2 : Int) : Int :=
  (bif decide (a2 ≤ 1) then 0 else (bif decide (a1 < (↑a0.length : Int)) then (IntKind.i64.wrap (a0.getD a1.toNat 0)).tmod a2 else (IntKind.i64.wrap (IntKind.i64.wrap (a1 * 37) + 11)).tmod a2))
def r_laws_b10At (M : FOps) (a0 : (List Int)) (a1 : Int) (a2 : Int) : Bool :=
  (bif decide (a2 ≤ 1) then true else (bif decide (a1 < (↑a0.length : Int)) then ((decide (0 ≤ a1) && decide (a1 < (↑a0.length : Int))) && (!(a2 == 0) && true)) else (!(a2 == 0) && true)))
def S_laws_b10At (M : FOps) : FSpec := mkSpec (.cons (.one (.ls (.int .u8))) (.cons (.one (.int .i64)) (.cons (.one (.int .i64)) .nil))) (.cons (.one (.int .i64)) .nil) (fun x => r_laws_b10At M x.1 x.2.1 x.2.2.1) (fun x => F_laws_b10At (p_laws_b10At M x.1 x.2.1 x.2.2.1))

def F_impl_FromBits (r : Nat × Bool) : AS.Ty (.cons (.one (.fl .f32)) (.cons (.one .bool) .nil)) × List CS := ((r.1, (r.2, ())), [])
def p_impl_FromBits (M : FOps) (a0 : Int) : Nat × Bool :=
  (bif !p_impl_within M a0 0 4294967295 then (0, false) else (p_math_Float32frombits M (IntKind.u32.wrap a0), true))
def r_impl_FromBits (M : FOps) (a0 : Int) : Bool :=
  (bif !p_impl_within M a0 0 4294967295 then true else ((decide (0 ≤ IntKind.u32.wrap a0) && decide (IntKind.u32.wrap a0 < 4294967296)) && true))
def S_impl_FromBits (M : FOps) : FSpec := mkSpec (.cons (.one (.int .i64)) .nil) (.cons (.one (.fl .f32)) (.cons (.one .bool) .nil)) (fun x => r_impl_FromBits M x.1) (fun x => F_impl_FromBits (p_impl_FromBits M x.1))

def F_impl_IsSubnormal (r : Bool) : AS.Ty (.cons (.one .bool) .nil) × List CS := ((r, ()), [])
def p_impl_IsSubnormal (M : FOps) (a0 : Nat) : Bool :=
  (bif M.cmp BinOp.neq FloatKind.f32 a0 0 then M.cmp BinOp.lss FloatKind.f64 (M.abs (M.wid a0)) 4039728865751334912 else false)
def S_impl_IsSubnormal (M : FOps) : FSpec := mkSpec (.cons (.one (.fl .f32)) .nil) (.cons (.one .bool) .nil) (fun _ => true) (fun x => F_impl_IsSubnormal (p_impl_IsSubnormal M x.1))

def c0_impl_FlushNumber (M : FOps) (a0 : Nat) : Nat := M.wid a0
def c1_impl_FlushNumber (M : FOps) (a0 : Nat) : Nat := p_math_Copysign M 0 (c0_impl_FlushNumber M a0)
def F_impl_FlushNumber (r : Nat) : AS.Ty (.cons (.one (.fl .f32)) .nil) × List CS := ((r, ()), [])
def p_impl_FlushNumber (M : FOps) (a0 : Nat) : Nat :=
  (bif p_impl_IsSubnormal M a0 then M.nar (c1_impl_FlushNumber M a0) else a0)
def r_impl_FlushNumber (M : FOps) (a0 : Nat) : Bool :=
  (bif p_impl_IsSubnormal M a0 then ((r_math_Copysign M 0 (c0_impl_FlushNumber M a0)) && ((M.narOk (c1_impl_FlushNumber M a0)) && true)) else true)
def S_impl_FlushNumber (M : FOps) : FSpec := mkSpec (.cons (.one (.fl .f32)) .nil) (.cons (.one (.fl .f32)) .nil) (fun x => r_impl_FlushNumber M x.1) (fun x => F_impl_FlushNumber (p_impl_FlushNumber M x.1))

/-- impl.sum, loop 0: (.tv 3 false (.fl .f32)) (.tv 6 true (.ls (.fl .f32))) (.tv 7 false (.int .i64)) (.tv 8 false (.int .i64)) (.tv 2 false (.fl .f32)) -/
def st_impl_sum_0 (M : FOps) (v0 : Nat) (v1 : (List Nat)) (v2 : Int) (v3 : Int) (v4 : Nat) : Option ((Nat × (List Nat) × Int × Int × Nat × Unit) ⊕ (Nat × Nat × Unit)) :=
  (brT (decide (v3 < v2)) (brT (decide (0 ≤ v3) && decide (v3 < (↑v1.length : Int))) (some (.inl (M.bin BinOp.add FloatKind.f32 v0 (v1.getD v3.toNat 0), (v1, (v2, (IntKind.i64.wrap (v3 + 1), (v4, ()))))))) none) (some (.inr (v0, (v4, ())))))
def W_impl_sum_0 (M : FOps) : (Nat × (List Nat) × Int × Int × Nat × Unit) → Option (Nat × Nat × Unit) := runW (fun x => st_impl_sum_0 M x.1 x.2.1 x.2.2.1 x.2.2.2.1 x.2.2.2.2.1)
def L_impl_sum_0 (M : FOps) : LSpec := mkL (.cons (.tv 3 false (.fl .f32)) (.cons (.tv 6 true (.ls (.fl .f32))) (.cons (.tv 7 false (.int .i64)) (.cons (.tv 8 false (.int .i64)) (.cons (.tv 2 false (.fl .f32)) .nil))))) [((.exit 0), (.cons (.tv 3 false (.fl .f32)) (.cons (.tv 2 false (.fl .f32)) .nil)))] 0 0 (W_impl_sum_0 M)
def c0_impl_sum (M : FOps) (a0 : (List Nat)) : Option (Nat × Nat × Unit) := W_impl_sum_0 M (0, a0, (↑a0.length : Int), 0, 0, ())
def F_impl_sum (r : Nat) : AS.Ty (.cons (.one (.fl .f32)) .nil) × List CS := ((r, ()), [])
def p_impl_sum (M : FOps) (a0 : (List Nat)) : Nat :=
  ((c0_impl_sum M a0).getD (0, 0, ())).fst
def r_impl_sum (M : FOps) (a0 : (List Nat)) : Bool :=
  (((c0_impl_sum M a0).isSome) && true)
def S_impl_sum (M : FOps) : FSpec := mkSpec (.cons (.one (.ls (.fl .f32))) .nil) (.cons (.one (.fl .f32)) .nil) (fun x => r_impl_sum M x.1) (fun x => F_impl_sum (p_impl_sum M x.1))

def F_impl_SumNumbers (r : Nat × Bool) : AS.Ty (.cons (.one (.fl .f32)) (.cons (.one .bool) .nil)) × List CS := ((r.1, (r.2, ())), [])
def p_impl_SumNumbers (M : FOps) (a0 : (List Nat)) : Nat × Bool :=
  (bif !p_impl_isList_float32 M a0 then (0, false) else (p_impl_sum M a0, true))
def r_impl_SumNumbers (M : FOps) (a0 : (List Nat)) : Bool :=
  (bif !p_impl_isList_float32 M a0 then true else ((r_impl_sum M a0) && true))
def S_impl_SumNumbers (M : FOps) : FSpec := mkSpec (.cons (.one (.ls (.fl .f32))) .nil) (.cons (.one (.fl .f32)) (.cons (.one .bool) .nil)) (fun x => r_impl_SumNumbers M x.1) (fun x => F_impl_SumNumbers (p_impl_SumNumbers M x.1))

def F_impl_NarrowNumber (r : Nat) : AS.Ty (.cons (.one (.fl .f32)) .nil) × List CS := ((r, ()), [])
def p_impl_NarrowNumber (M : FOps) (a0 : Nat) : Nat :=
  M.nar a0
def r_impl_NarrowNumber (M : FOps) (a0 : Nat) : Bool :=
  ((M.narOk a0) && true)
def S_impl_NarrowNumber (M : FOps) : FSpec := mkSpec (.cons (.one (.fl .f64)) .nil) (.cons (.one (.fl .f32)) .nil) (fun x => r_impl_NarrowNumber M x.1) (fun x => F_impl_NarrowNumber (p_impl_NarrowNumber M x.1))

def F_impl_AngleOf (r : Nat) : AS.Ty (.cons (.one (.fl .f32)) .nil) × List CS := ((r, ()), [])
def p_impl_AngleOf (M : FOps) (a0_0 : Nat) (a0_1 : Nat) : Nat :=
  p_impl_AngleTurns M a0_1 a0_0
def S_impl_AngleOf (M : FOps) : FSpec := mkSpec (.cons (.one (.cx .f32)) .nil) (.cons (.one (.fl .f32)) .nil) (fun _ => true) (fun x => F_impl_AngleOf (p_impl_AngleOf M x.1.1 x.1.2))

end
end Go.Dv
