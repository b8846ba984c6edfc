/- Printed by gen2.py. -/
import Derived.Test.YtggaemodkekeeaaLlf
import Derived.Test.YtggaemodkekeeaaYm
import Derived.Test.YtggaemodkekeeaaDs

set_option linter.unusedVariables false
set_option linter.unusedSimpArgs false

-- GENERATED BELOW (gen.py)
namespace Go.Dv
open Go.Cv
noncomputable section
def F_math_bits_Mul32 (r : Int × Int) : AS.Ty (.cons (.one (.int .u32)) (.cons (.one (.int .u32)) .nil)) × List CS := ((r.1, (r.2, ())), [])
def p_math_bits_Mul32 (M : FOps) (a0 : Int) (a1 : Int) : Int × Int :=
  (IntKind.u32.wrap (IntKind.u64.wrap (IntKind.u64.wrap a0 * IntKind.u64.wrap a1) / Int.ofNat 4294967296), IntKind.u32.wrap (IntKind.u64.wrap (IntKind.u64.wrap a0 * IntKind.u64.wrap a1)))
def S_math_bits_Mul32 (M : FOps) : FSpec := mkSpec (.cons (.one (.int .u32)) (.cons (.one (.int .u32)) .nil)) (.cons (.one (.int .u32)) (.cons (.one (.int .u32)) .nil)) (fun _ => true) (fun x => F_math_bits_Mul32 (p_math_bits_Mul32 M x.1 x.2.1))

def F_math_bits_Mul64 (r : Int × Int) : AS.Ty (.cons (.one (.int .u64)) (.cons (.one (.int .u64)) .nil)) × List CS := ((r.1, (r.2, ())), [])
def p_math_bits_Mul64 (M : FOps) (a0 : Int) (a1 : Int) : Int × Int :=
  (IntKind.u64.wrap (IntKind.u64.wrap (IntKind.u64.wrap (a0 / Int.ofNat 4294967296 * (a1 / Int.ofNat 4294967296)) + IntKind.u64.wrap (IntKind.u64.wrap (a0 / Int.ofNat 4294967296 * bits BinOp.and IntKind.u64 a1 4294967295) + IntKind.u64.wrap (bits BinOp.and IntKind.u64 a0 4294967295 * bits BinOp.and IntKind.u64 a1 4294967295) / Int.ofNat 4294967296) / Int.ofNat 4294967296) + IntKind.u64.wrap (bits BinOp.and IntKind.u64 (IntKind.u64.wrap (IntKind.u64.wrap (a0 / Int.ofNat 4294967296 * bits BinOp.and IntKind.u64 a1 4294967295) + IntKind.u64.wrap (bits BinOp.and IntKind.u64 a0 4294967295 * bits BinOp.and IntKind.u64 a1 4294967295) / Int.ofNat 4294967296)) 4294967295 + IntKind.u64.wrap (bits BinOp.and IntKind.u64 a0 4294967295 * (a1 / Int.ofNat 4294967296))) / Int.ofNat 4294967296), IntKind.u64.wrap (a0 * a1))
def S_math_bits_Mul64 (M : FOps) : FSpec := mkSpec (.cons (.one (.int .u64)) (.cons (.one (.int .u64)) .nil)) (.cons (.one (.int .u64)) (.cons (.one (.int .u64)) .nil)) (fun _ => true) (fun x => F_math_bits_Mul64 (p_math_bits_Mul64 M x.1 x.2.1))

def c0_math_bits_Mul (M : FOps) (a0 : Int) (a1 : Int) : Int × Int := p_math_bits_Mul64 M a0 a1
def F_math_bits_Mul (r : Int × Int) : AS.Ty (.cons (.one (.int .u64)) (.cons (.one (.int .u64)) .nil)) × List CS := ((r.1, (r.2, ())), [])
def p_math_bits_Mul (M : FOps) (a0 : Int) (a1 : Int) : Int × Int :=
  ((c0_math_bits_Mul M a0 a1).1, (c0_math_bits_Mul M a0 a1).2)
def S_math_bits_Mul (M : FOps) : FSpec := mkSpec (.cons (.one (.int .u64)) (.cons (.one (.int .u64)) .nil)) (.cons (.one (.int .u64)) (.cons (.one (.int .u64)) .nil)) (fun _ => true) (fun x => F_math_bits_Mul (p_math_bits_Mul M x.1 x.2.1))

/-- slices.Repeat[[]int64,int64], loop 0: (.to 7 0 (.int .i64)) (.tv 8 false (.int .i64)) (.tn 4) -/
def st_slices_Repeat_int64_int64_0 (M : FOps) (v0 : (List Int)) (v1 : Int) : Option (((List Int) × Int × Unit × Unit) ⊕ ((List Int) × Unit × Unit)) :=
  (brT (decide (v1 < (↑v0.length : Int))) (brT (decide (0 ≤ (some v1).getD 0) && decide ((some v1).getD 0 ≤ none.getD (↑v0.length : Int)) && decide (none.getD (↑v0.length : Int) ≤ (↑v0.length : Int))) (brT (decide (Int.ofNat 0 ≤ (some v1).getD (↑v0.length : Int)) && decide ((some v1).getD (↑v0.length : Int) ≤ (↑v0.length : Int))) (brT ((0 + ((some v1).getD (↑v0.length : Int) - Int.ofNat 0).toNat).ble v0.length && (((some v1).getD 0).toNat + (none.getD (↑v0.length : Int) - (some v1).getD 0).toNat).ble v0.length && true) (brT (v0.length.beq (List.take ((some v1).getD 0).toNat v0 ++ List.take ((List.take ((some v1).getD (↑v0.length : Int) - Int.ofNat 0).toNat (List.drop 0 v0)).length.min (none.getD (↑v0.length : Int) - (some v1).getD 0).toNat) (List.take ((some v1).getD (↑v0.length : Int) - Int.ofNat 0).toNat (List.drop 0 v0)) ++ List.drop (((some v1).getD 0).toNat + (List.take ((some v1).getD (↑v0.length : Int) - Int.ofNat 0).toNat (List.drop 0 v0)).length.min (none.getD (↑v0.length : Int) - (some v1).getD 0).toNat) v0).length && true) (some (.inl (List.take ((some v1).getD 0).toNat v0 ++ List.take ((List.take ((some v1).getD (↑v0.length : Int) - Int.ofNat 0).toNat (List.drop 0 v0)).length.min (none.getD (↑v0.length : Int) - (some v1).getD 0).toNat) (List.take ((some v1).getD (↑v0.length : Int) - Int.ofNat 0).toNat (List.drop 0 v0)) ++ List.drop (((some v1).getD 0).toNat + (List.take ((some v1).getD (↑v0.length : Int) - Int.ofNat 0).toNat (List.drop 0 v0)).length.min (none.getD (↑v0.length : Int) - (some v1).getD 0).toNat) v0, (IntKind.i64.wrap (v1 + (↑((List.take ((some v1).getD (↑v0.length : Int) - Int.ofNat 0).toNat (List.drop 0 v0)).length.min (none.getD (↑v0.length : Int) - (some v1).getD 0).toNat) : Int)), ((), ()))))) none) none) none) none) (brT (v0.length.beq v0.length && true) (some (.inr (v0, ((), ())))) none))
def W_slices_Repeat_int64_int64_0 (M : FOps) : ((List Int) × Int × Unit × Unit) → Option ((List Int) × Unit × Unit) := runW (fun x => st_slices_Repeat_int64_int64_0 M x.1 x.2.1)
def L_slices_Repeat_int64_int64_0 (M : FOps) : LSpec := mkL (.cons (.to 7 0 (.int .i64)) (.cons (.tv 8 false (.int .i64)) (.cons (.tn 4) .nil))) [((.exit 0), (.cons (.to 7 0 (.int .i64)) (.cons (.tn 4) .nil)))] 1 0 (W_slices_Repeat_int64_int64_0 M)
def c0_slices_Repeat_int64_int64 (M : FOps) (a0 : (List Int)) (a1 : Int) : Int × Int := p_math_bits_Mul M (IntKind.u64.wrap (↑a0.length : Int)) (IntKind.u64.wrap a1)
def c1_slices_Repeat_int64_int64 (M : FOps) (a0 : (List Int)) (a1 : Int) : Option (List Int × Unit × Unit) := W_slices_Repeat_int64_int64_0 M (List.take 0 (List.replicate (IntKind.i64.wrap (c0_slices_Repeat_int64_int64 M a0 a1).2).toNat (0 : Int)) ++ List.take (a0.length.min (List.replicate (IntKind.i64.wrap (c0_slices_Repeat_int64_int64 M a0 a1).2).toNat (0 : Int)).length) a0 ++ List.drop (0 + a0.length.min (List.replicate (IntKind.i64.wrap (c0_slices_Repeat_int64_int64 M a0 a1).2).toNat (0 : Int)).length) (List.replicate (IntKind.i64.wrap (c0_slices_Repeat_int64_int64 M a0 a1).2).toNat (0 : Int)), (↑(a0.length.min (List.replicate (IntKind.i64.wrap (c0_slices_Repeat_int64_int64 M a0 a1).2).toNat (0 : Int)).length) : Int), (), ())
def F_slices_Repeat_int64_int64 (r : (List Int)) : AS.Ty (.cons (.one (.ls (.int .i64))) .nil) × List CS := ((r, ()), [])
def p_slices_Repeat_int64_int64 (M : FOps) (a0 : (List Int)) (a1 : Int) : (List Int) :=
  ((c1_slices_Repeat_int64_int64 M a0 a1).getD ([], (), ())).1
def r_slices_Repeat_int64_int64 (M : FOps) (a0 : (List Int)) (a1 : Int) : Bool :=
  (!(decide (a1 < 0)) && (!(decide ((c0_slices_Repeat_int64_int64 M a0 a1).1 > 0)) && (!(decide ((c0_slices_Repeat_int64_int64 M a0 a1).2 > 9223372036854775807)) && ((decide (0 ≤ IntKind.i64.wrap (c0_slices_Repeat_int64_int64 M a0 a1).2) && decide (IntKind.i64.wrap (c0_slices_Repeat_int64_int64 M a0 a1).2 ≤ IntKind.i64.wrap (c0_slices_Repeat_int64_int64 M a0 a1).2) && decide (IntKind.i64.wrap (c0_slices_Repeat_int64_int64 M a0 a1).2 ≤ Int.ofNat 1073741824)) && (((List.replicate (IntKind.i64.wrap (c0_slices_Repeat_int64_int64 M a0 a1).2).toNat (0 : Int)).length.beq (List.replicate (IntKind.i64.wrap (c0_slices_Repeat_int64_int64 M a0 a1).2).toNat (0 : Int)).length && true) && (((List.replicate (IntKind.i64.wrap (c0_slices_Repeat_int64_int64 M a0 a1).2).toNat (0 : Int)).length.beq (List.take 0 (List.replicate (IntKind.i64.wrap (c0_slices_Repeat_int64_int64 M a0 a1).2).toNat (0 : Int)) ++ List.take (a0.length.min (List.replicate (IntKind.i64.wrap (c0_slices_Repeat_int64_int64 M a0 a1).2).toNat (0 : Int)).length) a0 ++ List.drop (0 + a0.length.min (List.replicate (IntKind.i64.wrap (c0_slices_Repeat_int64_int64 M a0 a1).2).toNat (0 : Int)).length) (List.replicate (IntKind.i64.wrap (c0_slices_Repeat_int64_int64 M a0 a1).2).toNat (0 : Int))).length && true) && (((c1_slices_Repeat_int64_int64 M a0 a1).isSome) && (((List.length ((c1_slices_Repeat_int64_int64 M a0 a1).getD ([], (), ())).1).beq (List.length ((c1_slices_Repeat_int64_int64 M a0 a1).getD ([], (), ())).1) && true) && true))))))))
def S_slices_Repeat_int64_int64 (M : FOps) : FSpec := mkSpec (.cons (.one (.ls (.int .i64))) (.cons (.one (.int .i64)) .nil)) (.cons (.one (.ls (.int .i64))) .nil) (fun x => r_slices_Repeat_int64_int64 M x.1 x.2.1) (fun x => F_slices_Repeat_int64_int64 (p_slices_Repeat_int64_int64 M x.1 x.2.1))

/-- slices.Min[[]int64,int64], loop 0: (.tv 0 true (.ls (.int .i64))) (.tv 3 false (.int .i64)) (.tv 4 false (.int .i64)) (.tv 2 false (.int .i64)) -/
def st_slices_Min_int64_int64_0 (M : FOps) (v0 : (List Int)) (v1 : Int) (v2 : Int) (v3 : Int) : Option (((List Int) × Int × Int × Int × Unit) ⊕ (Int × Int × Unit)) :=
  (brT (decide (v2 < (↑v0.length : Int))) (brT (decide (0 ≤ v2) && decide (v2 < (↑v0.length : Int))) (some (.inl (v0, (bif decide (v0.getD v2.toNat 0 < v1) then v0.getD v2.toNat 0 else v1, (IntKind.i64.wrap (v2 + 1), (v3, ())))))) none) (some (.inr (v1, (v3, ())))))
def W_slices_Min_int64_int64_0 (M : FOps) : ((List Int) × Int × Int × Int × Unit) → Option (Int × Int × Unit) := runW (fun x => st_slices_Min_int64_int64_0 M x.1 x.2.1 x.2.2.1 x.2.2.2.1)
def L_slices_Min_int64_int64_0 (M : FOps) : LSpec := mkL (.cons (.tv 0 true (.ls (.int .i64))) (.cons (.tv 3 false (.int .i64)) (.cons (.tv 4 false (.int .i64)) (.cons (.tv 2 false (.int .i64)) .nil)))) [((.exit 0), (.cons (.tv 3 false (.int .i64)) (.cons (.tv 2 false (.int .i64)) .nil)))] 0 0 (W_slices_Min_int64_int64_0 M)
def c0_slices_Min_int64_int64 (M : FOps) (a0 : (List Int)) : Option (Int × Int × Unit) := W_slices_Min_int64_int64_0 M (a0, a0.getD 0 0, 1, 0, ())
def F_slices_Min_int64_int64 (r : Int) : AS.Ty (.cons (.one (.int .i64)) .nil) × List CS := ((r, ()), [])
def p_slices_Min_int64_int64 (M : FOps) (a0 : (List Int)) : Int :=
  ((c0_slices_Min_int64_int64 M a0).getD (0, 0, ())).1
def r_slices_Min_int64_int64 (M : FOps) (a0 : (List Int)) : Bool :=
  (!(decide ((↑a0.length : Int) < 1)) && ((decide (0 < (↑a0.length : Int))) && (((c0_slices_Min_int64_int64 M a0).isSome) && true)))
def S_slices_Min_int64_int64 (M : FOps) : FSpec := mkSpec (.cons (.one (.ls (.int .i64))) .nil) (.cons (.one (.int .i64)) .nil) (fun x => r_slices_Min_int64_int64 M x.1) (fun x => F_slices_Min_int64_int64 (p_slices_Min_int64_int64 M x.1))

/-- slices.Index[[]int64,int64], loop 0: (.tv 0 true (.ls (.int .i64))) (.tv 1 false (.int .i64)) (.tv 7 false (.int .i64)) (.tv 8 false (.int .i64)) (.tv 4 false (.int .i64)) -/
def st_slices_Index_int64_int64_0 (M : FOps) (v0 : (List Int)) (v1 : Int) (v2 : Int) (v3 : Int) (v4 : Int) : Option (((List Int) × Int × Int × Int × Int × Unit) ⊕ ((Int × Unit) ⊕ (Int × Unit))) :=
  (brT (decide (v3 < v2)) (brT (decide (0 ≤ v3) && decide (v3 < (↑v0.length : Int))) (brT (v1 == v0.getD v3.toNat 0) (some (.inr (.inl (v3, ())))) (some (.inl (v0, (v1, (v2, (IntKind.i64.wrap (v3 + 1), (v4, ())))))))) none) (some (.inr (.inr (v4, ())))))
def W_slices_Index_int64_int64_0 (M : FOps) : ((List Int) × Int × Int × Int × Int × Unit) → Option ((Int × Unit) ⊕ (Int × Unit)) := runW (fun x => st_slices_Index_int64_int64_0 M x.1 x.2.1 x.2.2.1 x.2.2.2.1 x.2.2.2.2.1)
def L_slices_Index_int64_int64_0 (M : FOps) : LSpec := mkL (.cons (.tv 0 true (.ls (.int .i64))) (.cons (.tv 1 false (.int .i64)) (.cons (.tv 7 false (.int .i64)) (.cons (.tv 8 false (.int .i64)) (.cons (.tv 4 false (.int .i64)) .nil))))) [(.ret, (.cons (.tv 4 false (.int .i64)) .nil)), ((.exit 0), (.cons (.tv 4 false (.int .i64)) .nil))] 0 0 (W_slices_Index_int64_int64_0 M)
def c0_slices_Index_int64_int64 (M : FOps) (a0 : (List Int)) (a1 : Int) : Option (Int × Unit ⊕ Int × Unit) := W_slices_Index_int64_int64_0 M (a0, a1, (↑a0.length : Int), 0, 0, ())
def F_slices_Index_int64_int64 (r : Int) : AS.Ty (.cons (.one (.int .i64)) .nil) × List CS := ((r, ()), [])
def p_slices_Index_int64_int64 (M : FOps) (a0 : (List Int)) (a1 : Int) : Int :=
  (bif isL ((c0_slices_Index_int64_int64 M a0 a1).getD (Sum.inl (0, ()))) then (getL (0, ()) ((c0_slices_Index_int64_int64 M a0 a1).getD (Sum.inl (0, ())))).1 else Int.negSucc 0)
def r_slices_Index_int64_int64 (M : FOps) (a0 : (List Int)) (a1 : Int) : Bool :=
  (((c0_slices_Index_int64_int64 M a0 a1).isSome) && true)
def S_slices_Index_int64_int64 (M : FOps) : FSpec := mkSpec (.cons (.one (.ls (.int .i64))) (.cons (.one (.int .i64)) .nil)) (.cons (.one (.int .i64)) .nil) (fun x => r_slices_Index_int64_int64 M x.1 x.2.1) (fun x => F_slices_Index_int64_int64 (p_slices_Index_int64_int64 M x.1 x.2.1))

end
end Go.Dv
