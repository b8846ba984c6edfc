/- Printed by gen2.py. -/
import Derived.Test.YtbgpobiaaebbeaaGreatDoorDr
import Derived.Test.YtbgpobiaaebbeaaGreatDoorWkb
import Derived.Test.YtbgpobiaaebbeaaGreatDoorWa
import Derived.Test.YtbgpobiaaebbeaaGreatDoorYm

set_option linter.unusedVariables false
set_option linter.unusedSimpArgs false

-- GENERATED BELOW (gen.py)
namespace Go.Dv
open Go.Cv
noncomputable section
def F_spec_l00In (r : Bool) : AS.Ty (.cons (.one .bool) .nil) × List CS := ((r, ()), [])
def p_spec_l00In (M : FOps) (a0 : Int) (a1 : Int) (a2 : Int) : Bool :=
  (bif decide (a0 ≥ a1) then decide (a0 ≤ a2) else false)
def S_spec_l00In (M : FOps) : FSpec := mkSpec (.cons (.one (.int .i64)) (.cons (.one (.int .i64)) (.cons (.one (.int .i64)) .nil))) (.cons (.one .bool) .nil) (fun _ => true) (fun x => F_spec_l00In (p_spec_l00In M x.1 x.2.1 x.2.2.1))

def F_spec_l06Sides (r : Bool) : AS.Ty (.cons (.one .bool) .nil) × List CS := ((r, ()), [])
def p_spec_l06Sides (M : FOps) (a0 : Int) (a1 : Int) : Bool :=
  (bif p_spec_l00In M a0 2 16 then p_spec_l00In M a1 2 16 else false)
def S_spec_l06Sides (M : FOps) : FSpec := mkSpec (.cons (.one (.int .i64)) (.cons (.one (.int .i64)) .nil)) (.cons (.one .bool) .nil) (fun _ => true) (fun x => F_spec_l06Sides (p_spec_l06Sides M x.1 x.2.1))

/-- spec.l02Finite, loop 0: (.tv 0 true (.ls (.fl .f32))) (.tv 3 false (.int .i64)) (.tv 2 false .bool) -/
def st_spec_l02Finite_0 (M : FOps) (v0 : (List Nat)) (v1 : Int) (v2 : Bool) : Option (((List Nat) × Int × Bool × Unit) ⊕ ((Bool × Unit) ⊕ (Bool × Unit))) :=
  (brT (decide (v1 < (↑v0.length : Int))) (brT (decide (0 ≤ v1) && decide (v1 < (↑v0.length : Int))) (brT (!p_spec_l01Finite M (v0.getD v1.toNat 0)) (some (.inr (.inl (false, ())))) (some (.inl (v0, (IntKind.i64.wrap (v1 + 1), (v2, ())))))) none) (some (.inr (.inr (v2, ())))))
def W_spec_l02Finite_0 (M : FOps) : ((List Nat) × Int × Bool × Unit) → Option ((Bool × Unit) ⊕ (Bool × Unit)) := runW (fun x => st_spec_l02Finite_0 M x.1 x.2.1 x.2.2.1)
def L_spec_l02Finite_0 (M : FOps) : LSpec := mkL (.cons (.tv 0 true (.ls (.fl .f32))) (.cons (.tv 3 false (.int .i64)) (.cons (.tv 2 false .bool) .nil))) [(.ret, (.cons (.tv 2 false .bool) .nil)), ((.exit 0), (.cons (.tv 2 false .bool) .nil))] 0 0 (W_spec_l02Finite_0 M)
def c0_spec_l02Finite (M : FOps) (a0 : (List Nat)) : Option (Bool × Unit ⊕ Bool × Unit) := W_spec_l02Finite_0 M (a0, 0, false, ())
def F_spec_l02Finite (r : Bool) : AS.Ty (.cons (.one .bool) .nil) × List CS := ((r, ()), [])
def p_spec_l02Finite (M : FOps) (a0 : (List Nat)) : Bool :=
  (bif isL ((c0_spec_l02Finite M a0).getD (Sum.inl (false, ()))) then (getL (false, ()) ((c0_spec_l02Finite M a0).getD (Sum.inl (false, ())))).fst else true)
def r_spec_l02Finite (M : FOps) (a0 : (List Nat)) : Bool :=
  (((c0_spec_l02Finite M a0).isSome) && true)
def S_spec_l02Finite (M : FOps) : FSpec := mkSpec (.cons (.one (.ls (.fl .f32))) .nil) (.cons (.one .bool) .nil) (fun x => r_spec_l02Finite M x.1) (fun x => F_spec_l02Finite (p_spec_l02Finite M x.1))

def F_spec_l06Is (r : Bool) : AS.Ty (.cons (.one .bool) .nil) × List CS := ((r, ()), [])
def p_spec_l06Is (M : FOps) (a0_0 : Int) (a0_1 : Int) (a0_2 : (List Nat)) : Bool :=
  (bif p_spec_l06Sides M a0_0 a0_1 then (bif (↑a0_2.length : Int) == IntKind.i64.wrap (a0_0 * a0_1) then p_spec_l02Finite M a0_2 else false) else false)
def r_spec_l06Is (M : FOps) (a0_0 : Int) (a0_1 : Int) (a0_2 : (List Nat)) : Bool :=
  (bif p_spec_l06Sides M a0_0 a0_1 then (bif (↑a0_2.length : Int) == IntKind.i64.wrap (a0_0 * a0_1) then ((r_spec_l02Finite M a0_2) && true) else true) else true)
def S_spec_l06Is (M : FOps) : FSpec := mkSpec (.cons (.ptr (.pair (.int .i64) (.pair (.int .i64) (.ls (.fl .f32))))) .nil) (.cons (.one .bool) .nil) (fun x => r_spec_l06Is M x.1.1 x.1.2.1 x.1.2.2) (fun x => F_spec_l06Is (p_spec_l06Is M x.1.1 x.1.2.1 x.1.2.2))

def F_impl_areSides (r : Bool) : AS.Ty (.cons (.one .bool) .nil) × List CS := ((r, ()), [])
def p_impl_areSides (M : FOps) (a0 : Int) (a1 : Int) : Bool :=
  (bif p_impl_within M a0 2 16 then p_impl_within M a1 2 16 else false)
def S_impl_areSides (M : FOps) : FSpec := mkSpec (.cons (.one (.int .i64)) (.cons (.one (.int .i64)) .nil)) (.cons (.one .bool) .nil) (fun _ => true) (fun x => F_impl_areSides (p_impl_areSides M x.1 x.2.1))

def F_impl_length_float32 (r : Int) : AS.Ty (.cons (.one (.int .i64)) .nil) × List CS := ((r, ()), [])
def p_impl_length_float32 (M : FOps) (a0 : (List Nat)) : Int :=
  (↑a0.length : Int)
def S_impl_length_float32 (M : FOps) : FSpec := mkSpec (.cons (.one (.ls (.fl .f32))) .nil) (.cons (.one (.int .i64)) .nil) (fun _ => true) (fun x => F_impl_length_float32 (p_impl_length_float32 M x.1))

def F_impl_ValidGrid (r : Bool) : AS.Ty (.cons (.one .bool) .nil) × List CS := ((r, ()), [])
def p_impl_ValidGrid (M : FOps) (a0_0 : Int) (a0_1 : Int) (a0_2 : (List Nat)) : Bool :=
  (bif p_impl_areSides M a0_0 a0_1 then (bif p_impl_length_float32 M a0_2 == IntKind.i64.wrap (a0_0 * a0_1) then a0_2.all fun x => p_impl_IsFinite M x else false) else false)
def r_impl_ValidGrid (M : FOps) (a0_0 : Int) (a0_1 : Int) (a0_2 : (List Nat)) : Bool :=
  (bif p_impl_areSides M a0_0 a0_1 then (bif p_impl_length_float32 M a0_2 == IntKind.i64.wrap (a0_0 * a0_1) then ((decide (a0_2.length < 4611686018427387904)) && true) else true) else true)
def S_impl_ValidGrid (M : FOps) : FSpec := mkSpec (.cons (.agg (.pair (.int .i64) (.pair (.int .i64) (.ls (.fl .f32))))) .nil) (.cons (.one .bool) .nil) (fun x => r_impl_ValidGrid M x.1.1 x.1.2.1 x.1.2.2) (fun x => F_impl_ValidGrid (p_impl_ValidGrid M x.1.1 x.1.2.1 x.1.2.2))

/-- spec.l01Dec, loop 0: (.ren 3 0) (.to 3 0 (.int .u8)) (.tv 4 false (.int .i64)) (.tv 0 false (.int .i64)) (.tv 2 false .str) -/
def st_spec_l01Dec_0 (M : FOps) (v0 : (List Int)) (v1 : Int) (v2 : Int) (v3 : ByteArray) : Option (((List Int) × Int × Int × ByteArray × Unit) ⊕ (Int × (List Int) × ByteArray × Unit)) :=
  (brT ((↑v0.length : Int) == 0) (brT (decide (v1.tmod 10 < 0)) (brT (v0.length.beq v0.length) (brT (([IntKind.u8.wrap (IntKind.i64.wrap (48 + IntKind.i64.wrap (0 - v1.tmod 10)))].length + v0.length).ble 1073741824) (brT (([IntKind.u8.wrap (IntKind.i64.wrap (48 + IntKind.i64.wrap (0 - v1.tmod 10)))] ++ v0).length.beq ([IntKind.u8.wrap (IntKind.i64.wrap (48 + IntKind.i64.wrap (0 - v1.tmod 10)))] ++ v0).length && true) (some (.inl ([IntKind.u8.wrap (IntKind.i64.wrap (48 + IntKind.i64.wrap (0 - v1.tmod 10)))] ++ v0, (IntKind.i64.wrap (v1.tdiv 10), (v2, (v3, ())))))) none) none) none) (brT (v0.length.beq v0.length) (brT (([IntKind.u8.wrap (IntKind.i64.wrap (48 + v1.tmod 10))].length + v0.length).ble 1073741824) (brT (([IntKind.u8.wrap (IntKind.i64.wrap (48 + v1.tmod 10))] ++ v0).length.beq ([IntKind.u8.wrap (IntKind.i64.wrap (48 + v1.tmod 10))] ++ v0).length && true) (some (.inl ([IntKind.u8.wrap (IntKind.i64.wrap (48 + v1.tmod 10))] ++ v0, (IntKind.i64.wrap (v1.tdiv 10), (v2, (v3, ())))))) none) none) none)) (brT (v1 != 0) (brT (decide (v1.tmod 10 < 0)) (brT (v0.length.beq v0.length) (brT (([IntKind.u8.wrap (IntKind.i64.wrap (48 + IntKind.i64.wrap (0 - v1.tmod 10)))].length + v0.length).ble 1073741824) (brT (([IntKind.u8.wrap (IntKind.i64.wrap (48 + IntKind.i64.wrap (0 - v1.tmod 10)))] ++ v0).length.beq ([IntKind.u8.wrap (IntKind.i64.wrap (48 + IntKind.i64.wrap (0 - v1.tmod 10)))] ++ v0).length && true) (some (.inl ([IntKind.u8.wrap (IntKind.i64.wrap (48 + IntKind.i64.wrap (0 - v1.tmod 10)))] ++ v0, (IntKind.i64.wrap (v1.tdiv 10), (v2, (v3, ())))))) none) none) none) (brT (v0.length.beq v0.length) (brT (([IntKind.u8.wrap (IntKind.i64.wrap (48 + v1.tmod 10))].length + v0.length).ble 1073741824) (brT (([IntKind.u8.wrap (IntKind.i64.wrap (48 + v1.tmod 10))] ++ v0).length.beq ([IntKind.u8.wrap (IntKind.i64.wrap (48 + v1.tmod 10))] ++ v0).length && true) (some (.inl ([IntKind.u8.wrap (IntKind.i64.wrap (48 + v1.tmod 10))] ++ v0, (IntKind.i64.wrap (v1.tdiv 10), (v2, (v3, ())))))) none) none) none)) (brT (v0.length.beq v0.length && true) (some (.inr (v2, (v0, (v3, ()))))) none)))
def W_spec_l01Dec_0 (M : FOps) : ((List Int) × Int × Int × ByteArray × Unit) → Option (Int × (List Int) × ByteArray × Unit) := runW (fun x => st_spec_l01Dec_0 M x.1 x.2.1 x.2.2.1 x.2.2.2.1)
def L_spec_l01Dec_0 (M : FOps) : LSpec := mkL (.ren 3 0 (.cons (.to 3 0 (.int .u8)) (.cons (.tv 4 false (.int .i64)) (.cons (.tv 0 false (.int .i64)) (.cons (.tv 2 false .str) .nil))))) [((.exit 0), (.cons (.tv 0 false (.int .i64)) (.cons (.to 3 0 (.int .u8)) (.cons (.tv 2 false .str) .nil))))] 1 0 (W_spec_l01Dec_0 M)
def c0_spec_l01Dec (M : FOps) (a0 : Int) : Option (Int × List Int × ByteArray × Unit) := W_spec_l01Dec_0 M ([], a0, a0, { data := #[] }, ())
def F_spec_l01Dec (r : ByteArray) : AS.Ty (.cons (.one .str) .nil) × List CS := ((r, ()), [])
def p_spec_l01Dec (M : FOps) (a0 : Int) : ByteArray :=
  (bif decide (((c0_spec_l01Dec M a0).getD (0, [], { data := #[] }, ())).fst < 0) then p_bytes ([45] ++ ((c0_spec_l01Dec M a0).getD (0, [], { data := #[] }, ())).snd.fst) else p_bytes ((c0_spec_l01Dec M a0).getD (0, [], { data := #[] }, ())).snd.fst)
def r_spec_l01Dec (M : FOps) (a0 : Int) : Bool :=
  (((c0_spec_l01Dec M a0).isSome) && (bif decide (((c0_spec_l01Dec M a0).getD (0, [], { data := #[] }, ())).fst < 0) then (((1 + List.length ((c0_spec_l01Dec M a0).getD (0, [], { data := #[] }, ())).snd.fst).ble 1073741824) && true) else true))
def S_spec_l01Dec (M : FOps) : FSpec := mkSpec (.cons (.one (.int .i64)) .nil) (.cons (.one .str) .nil) (fun x => r_spec_l01Dec M x.1) (fun x => F_spec_l01Dec (p_spec_l01Dec M x.1))

/-- laws.eqFloat32S, loop 0: (.tv 0 true (.ls (.fl .f32))) (.tv 1 true (.ls (.fl .f32))) (.tv 5 false (.int .i64)) (.tv 4 false .bool) -/
def st_laws_eqFloat32S_0 (M : FOps) (v0 : (List Nat)) (v1 : (List Nat)) (v2 : Int) (v3 : Bool) : Option (((List Nat) × (List Nat) × Int × Bool × Unit) ⊕ ((Bool × Unit) ⊕ (Bool × Unit))) :=
  (brT (decide (v2 < (↑v0.length : Int))) (brT (decide (0 ≤ v2) && decide (v2 < (↑v0.length : Int))) (brT (decide (0 ≤ v2) && decide (v2 < (↑v1.length : Int))) (brT (!p_laws_sameFloat M (M.wid (v0.getD v2.toNat 0)) (M.wid (v1.getD v2.toNat 0))) (some (.inr (.inl (false, ())))) (some (.inl (v0, (v1, (IntKind.i64.wrap (v2 + 1), (v3, ()))))))) none) none) (some (.inr (.inr (v3, ())))))
def W_laws_eqFloat32S_0 (M : FOps) : ((List Nat) × (List Nat) × Int × Bool × Unit) → Option ((Bool × Unit) ⊕ (Bool × Unit)) := runW (fun x => st_laws_eqFloat32S_0 M x.1 x.2.1 x.2.2.1 x.2.2.2.1)
def L_laws_eqFloat32S_0 (M : FOps) : LSpec := mkL (.cons (.tv 0 true (.ls (.fl .f32))) (.cons (.tv 1 true (.ls (.fl .f32))) (.cons (.tv 5 false (.int .i64)) (.cons (.tv 4 false .bool) .nil)))) [(.ret, (.cons (.tv 4 false .bool) .nil)), ((.exit 0), (.cons (.tv 4 false .bool) .nil))] 0 0 (W_laws_eqFloat32S_0 M)
def c0_laws_eqFloat32S (M : FOps) (a0 : (List Nat)) (a1 : (List Nat)) : Option (Bool × Unit ⊕ Bool × Unit) := W_laws_eqFloat32S_0 M (a0, a1, 0, false, ())
def F_laws_eqFloat32S (r : Bool) : AS.Ty (.cons (.one .bool) .nil) × List CS := ((r, ()), [])
def p_laws_eqFloat32S (M : FOps) (a0 : (List Nat)) (a1 : (List Nat)) : Bool :=
  (bif (↑a0.length : Int) != (↑a1.length : Int) then false else (bif isL ((c0_laws_eqFloat32S M a0 a1).getD (Sum.inl (false, ()))) then (getL (false, ()) ((c0_laws_eqFloat32S M a0 a1).getD (Sum.inl (false, ())))).fst else true))
def r_laws_eqFloat32S (M : FOps) (a0 : (List Nat)) (a1 : (List Nat)) : Bool :=
  (bif (↑a0.length : Int) != (↑a1.length : Int) then true else (((c0_laws_eqFloat32S M a0 a1).isSome) && true))
def S_laws_eqFloat32S (M : FOps) : FSpec := mkSpec (.cons (.one (.ls (.fl .f32))) (.cons (.one (.ls (.fl .f32))) .nil)) (.cons (.one .bool) .nil) (fun x => r_laws_eqFloat32S M x.1 x.2.1) (fun x => F_laws_eqFloat32S (p_laws_eqFloat32S M x.1 x.2.1))

def F_laws_eqGrid (r : Bool) : AS.Ty (.cons (.one .bool) .nil) × List CS := ((r, ()), [])
def p_laws_eqGrid (M : FOps) (a0_0 : Int) (a0_1 : Int) (a0_2 : (List Nat)) (a1_0 : Int) (a1_1 : Int) (a1_2 : (List Nat)) : Bool :=
  (bif a0_0 != a1_0 then false else (bif a0_1 != a1_1 then false else (bif !p_laws_eqFloat32S M a0_2 a1_2 then false else true)))
def r_laws_eqGrid (M : FOps) (a0_0 : Int) (a0_1 : Int) (a0_2 : (List Nat)) (a1_0 : Int) (a1_1 : Int) (a1_2 : (List Nat)) : Bool :=
  (bif a0_0 != a1_0 then true else (bif a0_1 != a1_1 then true else ((r_laws_eqFloat32S M a0_2 a1_2) && true)))
def S_laws_eqGrid (M : FOps) : FSpec := mkSpec (.cons (.agg (.pair (.int .i64) (.pair (.int .i64) (.ls (.fl .f32))))) (.cons (.agg (.pair (.int .i64) (.pair (.int .i64) (.ls (.fl .f32))))) .nil)) (.cons (.one .bool) .nil) (fun x => r_laws_eqGrid M x.1.1 x.1.2.1 x.1.2.2 x.2.1.1 x.2.1.2.1 x.2.1.2.2) (fun x => F_laws_eqGrid (p_laws_eqGrid M x.1.1 x.1.2.1 x.1.2.2 x.2.1.1 x.2.1.2.1 x.2.1.2.2))

end
end Go.Dv
