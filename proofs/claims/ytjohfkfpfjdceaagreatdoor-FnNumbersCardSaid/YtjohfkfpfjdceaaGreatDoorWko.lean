/- Printed by gen2.py. -/
import Derived.Test.YtjohfkfpfjdceaaGreatDoorWkn

set_option linter.unusedVariables false
set_option linter.unusedSimpArgs false

-- GENERATED BELOW (gen.py)
namespace Go.Dv
open Go.Cv
noncomputable section
/-- impl.readTexts[float32], loop 0: (.tv 1 false (.int .i64)) (.tf 2 76) (.to 8 1 (.fl .f32)) (.to 16 0 .str) (.tv 17 false (.int .i64)) (.tv 18 false (.int .i64)) (.to 6 2 (.fl .f32)) (.tv 7 false .bool) -/
def st_impl_readTexts_float32_k_0 (M : FOps) (v0 : Int) (v1 : (List Nat)) (v2 : (List ByteArray)) (v3 : Int) (v4 : Int) (v5 : (List Nat)) (v6 : Bool) : Option ((Int × Unit × (List Nat) × (List ByteArray) × Int × Int × (List Nat) × Bool × Unit) ⊕ ((Unit × Bool × Unit) ⊕ ((List Nat) × (List Nat) × Bool × Unit))) :=
  (brT (decide (v4 < v3)) (brT (decide (0 ≤ v4) && decide (v4 < (↑v2.length : Int))) (brT (v4.toNat.blt v2.length && true) (brT (r_impl_readBits M (v2.getD v4.toNat (ByteArray.mk #[]))) (brT (!(p_impl_readBits M (v2.getD v4.toNat (ByteArray.mk #[]))).snd) (some (.inr (.inl ((), (false, ()))))) (brT ((↑v1.length : Int) == v0) (some (.inr (.inl ((), (false, ()))))) (brT (v1.length.beq v1.length && (v1.length + [(p_impl_readBits M (v2.getD v4.toNat (ByteArray.mk #[]))).fst].length).ble 1073741824) (brT ((v1 ++ [(p_impl_readBits M (v2.getD v4.toNat (ByteArray.mk #[]))).fst]).length.beq (v1 ++ [(p_impl_readBits M (v2.getD v4.toNat (ByteArray.mk #[]))).fst]).length && (v2.length.beq v2.length && (v5.length.beq v5.length && true))) (some (.inl (v0, ((), (v1 ++ [(p_impl_readBits M (v2.getD v4.toNat (ByteArray.mk #[]))).fst], (v2, (v3, (IntKind.i64.wrap (v4 + 1), (v5, (v6, ())))))))))) none) none))) none) none) none) (brT (v1.length.beq v1.length && (v5.length.beq v5.length && true)) (some (.inr (.inr (v1, (v5, (v6, ())))))) none))
def W_impl_readTexts_float32_k_0 (M : FOps) : (Int × Unit × (List Nat) × (List ByteArray) × Int × Int × (List Nat) × Bool × Unit) → Option ((Unit × Bool × Unit) ⊕ ((List Nat) × (List Nat) × Bool × Unit)) := runW (fun x => st_impl_readTexts_float32_k_0 M x.1 x.2.2.1 x.2.2.2.1 x.2.2.2.2.1 x.2.2.2.2.2.1 x.2.2.2.2.2.2.1 x.2.2.2.2.2.2.2.1)
def L_impl_readTexts_float32_k_0 (M : FOps) : LSpec := mkL (.cons (.tv 1 false (.int .i64)) (.cons (.tf 2 76) (.cons (.to 8 1 (.fl .f32)) (.cons (.to 16 0 .str) (.cons (.tv 17 false (.int .i64)) (.cons (.tv 18 false (.int .i64)) (.cons (.to 6 2 (.fl .f32)) (.cons (.tv 7 false .bool) .nil)))))))) [(.ret, (.cons (.tn 6) (.cons (.tv 7 false .bool) .nil))), ((.exit 0), (.cons (.to 8 1 (.fl .f32)) (.cons (.to 6 2 (.fl .f32)) (.cons (.tv 7 false .bool) .nil))))] 3 0 (W_impl_readTexts_float32_k_0 M)
def c0_impl_readTexts_float32_k (M : FOps) (a0 : ByteArray) (a1 : Int) : List ByteArray := p_strings_Split M a0 (ByteArray.mk #[44])
def c1_impl_readTexts_float32_k (M : FOps) (a0 : ByteArray) (a1 : Int) : Option (Unit × Bool × Unit ⊕ List Nat × List Nat × Bool × Unit) := W_impl_readTexts_float32_k_0 M (a1, (), [], (c0_impl_readTexts_float32_k M a0 a1), (↑(c0_impl_readTexts_float32_k M a0 a1).length : Int), 0, [], false, ())
def F_impl_readTexts_float32_k (r : (List Nat) × Bool) : AS.Ty (.cons (.one (.ls (.fl .f32))) (.cons (.one .bool) .nil)) × List CS := ((r.1, (r.2, ())), [])
def p_impl_readTexts_float32_k (M : FOps) (a0 : ByteArray) (a1 : Int) : (List Nat) × Bool :=
  (bif a0.toList == (ByteArray.mk #[110, 111, 110, 101]).toList then ([], true) else (bif isL ((c1_impl_readTexts_float32_k M a0 a1).getD (Sum.inl ((), false, ()))) then ([], (getL ((), false, ()) ((c1_impl_readTexts_float32_k M a0 a1).getD (Sum.inl ((), false, ())))).snd.fst) else ((getR ([], [], false, ()) ((c1_impl_readTexts_float32_k M a0 a1).getD (Sum.inl ((), false, ())))).fst, true)))
def r_impl_readTexts_float32_k (M : FOps) (a0 : ByteArray) (a1 : Int) : Bool :=
  (bif a0.toList == (ByteArray.mk #[110, 111, 110, 101]).toList then true else ((r_strings_Split M a0 (ByteArray.mk #[44])) && (((c0_impl_readTexts_float32_k M a0 a1).length.beq (c0_impl_readTexts_float32_k M a0 a1).length && true) && (((c1_impl_readTexts_float32_k M a0 a1).isSome) && (bif isL ((c1_impl_readTexts_float32_k M a0 a1).getD (Sum.inl ((), false, ()))) then true else (((List.length (getR ([], [], false, ()) ((c1_impl_readTexts_float32_k M a0 a1).getD (Sum.inl ((), false, ())))).fst).beq (List.length (getR ([], [], false, ()) ((c1_impl_readTexts_float32_k M a0 a1).getD (Sum.inl ((), false, ())))).fst) && true) && true))))))
def S_impl_readTexts_float32_k (M : FOps) : FSpec := mkSpec (.cons (.one .str) (.cons (.one (.int .i64)) (.cons (.fn 76 .nil) .nil))) (.cons (.one (.ls (.fl .f32))) (.cons (.one .bool) .nil)) (fun x => r_impl_readTexts_float32_k M x.1 x.2.1) (fun x => F_impl_readTexts_float32_k (p_impl_readTexts_float32_k M x.1 x.2.1))

def c0_impl_ReadNumbers (M : FOps) (a0 : ByteArray) : List Nat × Bool := p_impl_readTexts_float32_k M a0 256
def F_impl_ReadNumbers (r : (List Nat) × Bool) : AS.Ty (.cons (.one (.ls (.fl .f32))) (.cons (.one .bool) .nil)) × List CS := ((r.1, (r.2, ())), [])
def p_impl_ReadNumbers (M : FOps) (a0 : ByteArray) : (List Nat) × Bool :=
  ((c0_impl_ReadNumbers M a0).fst, (c0_impl_ReadNumbers M a0).snd)
def r_impl_ReadNumbers (M : FOps) (a0 : ByteArray) : Bool :=
  ((r_impl_readTexts_float32_k M a0 256) && (((c0_impl_ReadNumbers M a0).fst.length.beq (c0_impl_ReadNumbers M a0).fst.length && true) && true))
def S_impl_ReadNumbers (M : FOps) : FSpec := mkSpec (.cons (.one .str) .nil) (.cons (.one (.ls (.fl .f32))) (.cons (.one .bool) .nil)) (fun x => r_impl_ReadNumbers M x.1) (fun x => F_impl_ReadNumbers (p_impl_ReadNumbers M x.1))

def F_spec_l01From (r : Nat) : AS.Ty (.cons (.one (.fl .f32)) .nil) × List CS := ((r, ()), [])
def p_spec_l01From (M : FOps) (a0 : Int) : Nat :=
  p_math_Float32frombits M (IntKind.u32.wrap a0)
def r_spec_l01From (M : FOps) (a0 : Int) : Bool :=
  ((decide (0 ≤ IntKind.u32.wrap a0) && decide (IntKind.u32.wrap a0 < 4294967296)) && true)
def S_spec_l01From (M : FOps) : FSpec := mkSpec (.cons (.one (.int .i64)) .nil) (.cons (.one (.fl .f32)) .nil) (fun x => r_spec_l01From M x.1) (fun x => F_spec_l01From (p_spec_l01From M x.1))

end
end Go.Dv
