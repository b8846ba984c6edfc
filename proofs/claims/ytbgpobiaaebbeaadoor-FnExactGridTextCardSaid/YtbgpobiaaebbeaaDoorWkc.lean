/- Printed by gen2.py. -/
import Derived.Test.YtbgpobiaaebbeaaDoorFz
import Derived.Test.YtbgpobiaaebbeaaDoorWkb
import Derived.Test.YtbgpobiaaebbeaaDoorWa
import Derived.Test.YtbgpobiaaebbeaaDoorQd
set_option linter.unusedVariables false
set_option linter.unusedSimpArgs false

-- GENERATED BELOW (gen.py)
namespace Go.Dv
open Go.Cv
noncomputable section
def F_spec_l00In (r : Bool) : AS.Ty (.cons (.one .bool) .nil) × List CS := ((r, ()), [])
def p_spec_l00In (M : FOps) (a0 : Int) (a1 : Int) (a2 : Int) : Bool :=
  (bif decide (a0 ≥ a1) then decide (a0 ≤ a2) else false)
def S_spec_l00In (M : FOps) : FSpec := mkSpec (.cons (.one (.int .i64)) (.cons (.one (.int .i64)) (.cons (.one (.int .i64)) .nil))) (.cons (.one .bool) .nil) (fun _ => true) (fun x => F_spec_l00In (p_spec_l00In M x.1 x.2.1 x.2.2.1))

def F_laws_szFloat32S (r : Int) : AS.Ty (.cons (.one (.int .i64)) .nil) × List CS := ((r, ()), [])
def p_laws_szFloat32S (M : FOps) (a0 : (List Nat)) (a1 : Int) : Int :=
  (bif decide (IntKind.i64.wrap (a1 - (↑a0.length : Int)) < 0) then Int.negSucc 0 else IntKind.i64.wrap (a1 - (↑a0.length : Int)))
def S_laws_szFloat32S (M : FOps) : FSpec := mkSpec (.cons (.one (.ls (.fl .f32))) (.cons (.one (.int .i64)) .nil)) (.cons (.one (.int .i64)) .nil) (fun _ => true) (fun x => F_laws_szFloat32S (p_laws_szFloat32S M x.1 x.2.1))

def c0_laws_szGrid (M : FOps) (a0_0 : Int) (a0_1 : Int) (a0_2 : (List Nat)) (a1 : Int) : Int := p_laws_szFloat32S M a0_2 a1
def F_laws_szGrid (r : Int) : AS.Ty (.cons (.one (.int .i64)) .nil) × List CS := ((r, ()), [])
def p_laws_szGrid (M : FOps) (a0_0 : Int) (a0_1 : Int) (a0_2 : (List Nat)) (a1 : Int) : Int :=
  (bif decide ((c0_laws_szGrid M a0_0 a0_1 a0_2 a1) < 0) then Int.negSucc 0 else (c0_laws_szGrid M a0_0 a0_1 a0_2 a1))
def S_laws_szGrid (M : FOps) : FSpec := mkSpec (.cons (.agg (.pair (.int .i64) (.pair (.int .i64) (.ls (.fl .f32))))) (.cons (.one (.int .i64)) .nil)) (.cons (.one (.int .i64)) .nil) (fun _ => true) (fun x => F_laws_szGrid (p_laws_szGrid M x.1.1 x.1.2.1 x.1.2.2 x.2.1))

def F_spec_l06Sides (r : Bool) : AS.Ty (.cons (.one .bool) .nil) × List CS := ((r, ()), [])
def p_spec_l06Sides (M : FOps) (a0 : Int) (a1 : Int) : Bool :=
  (bif p_spec_l00In M a0 2 16 then p_spec_l00In M a1 2 16 else false)
def S_spec_l06Sides (M : FOps) : FSpec := mkSpec (.cons (.one (.int .i64)) (.cons (.one (.int .i64)) .nil)) (.cons (.one .bool) .nil) (fun _ => true) (fun x => F_spec_l06Sides (p_spec_l06Sides M x.1 x.2.1))

/-- spec.l02Finite, loop 0: (.tv 0 true (.ls (.fl .f32))) (.tv 3 false (.int .i64)) (.tv 2 false .bool) -/
def st_spec_l02Finite_0 (M : FOps) (v0 : (List Nat)) (v1 : Int) (v2 : Bool) : Option (((List Nat) × Int × Bool × Unit) ⊕ ((Bool × Unit) ⊕ (Bool × Unit))) :=
  (brT (decide (v1 < (↑v0.length : Int))) (brT (decide (0 ≤ v1) && decide (v1 < (↑v0.length : Int))) (brT (!p_spec_l01Finite M (v0.getD v1.toNat 0)) (some (.inr (.inl (false, ())))) (some (.inl (v0, (IntKind.i64.wrap (v1 + 1), (v2, ())))))) none) (some (.inr (.inr (v2, ())))))
def W_spec_l02Finite_0 (M : FOps) : ((List Nat) × Int × Bool × Unit) → Option ((Bool × Unit) ⊕ (Bool × Unit)) := runW (fun x => st_spec_l02Finite_0 M x.1 x.2.1 x.2.2.1)
def L_spec_l02Finite_0 (M : FOps) : LSpec := mkL (.cons (.tv 0 true (.ls (.fl .f32))) (.cons (.tv 3 false (.int .i64)) (.cons (.tv 2 false .bool) .nil))) [(.ret, (.cons (.tv 2 false .bool) .nil)), ((.exit 0), (.cons (.tv 2 false .bool) .nil))] 0 0 (W_spec_l02Finite_0 M)
def c0_spec_l02Finite (M : FOps) (a0 : (List Nat)) : Option (Bool × Unit ⊕ Bool × Unit) := W_spec_l02Finite_0 M (a0, 0, false, ())
def F_spec_l02Finite (r : Bool) : AS.Ty (.cons (.one .bool) .nil) × List CS := ((r, ()), [])
def p_spec_l02Finite (M : FOps) (a0 : (List Nat)) : Bool :=
  (bif isL ((c0_spec_l02Finite M a0).getD (Sum.inl (false, ()))) then (getL (false, ()) ((c0_spec_l02Finite M a0).getD (Sum.inl (false, ())))).fst else true)
def r_spec_l02Finite (M : FOps) (a0 : (List Nat)) : Bool :=
  (((c0_spec_l02Finite M a0).isSome) && true)
def S_spec_l02Finite (M : FOps) : FSpec := mkSpec (.cons (.one (.ls (.fl .f32))) .nil) (.cons (.one .bool) .nil) (fun x => r_spec_l02Finite M x.1) (fun x => F_spec_l02Finite (p_spec_l02Finite M x.1))

def F_spec_l06Is (r : Bool) : AS.Ty (.cons (.one .bool) .nil) × List CS := ((r, ()), [])
def p_spec_l06Is (M : FOps) (a0_0 : Int) (a0_1 : Int) (a0_2 : (List Nat)) : Bool :=
  (bif p_spec_l06Sides M a0_0 a0_1 then (bif (↑a0_2.length : Int) == IntKind.i64.wrap (a0_0 * a0_1) then p_spec_l02Finite M a0_2 else false) else false)
def r_spec_l06Is (M : FOps) (a0_0 : Int) (a0_1 : Int) (a0_2 : (List Nat)) : Bool :=
  (bif p_spec_l06Sides M a0_0 a0_1 then (bif (↑a0_2.length : Int) == IntKind.i64.wrap (a0_0 * a0_1) then ((r_spec_l02Finite M a0_2) && true) else true) else true)
def S_spec_l06Is (M : FOps) : FSpec := mkSpec (.cons (.ptr (.pair (.int .i64) (.pair (.int .i64) (.ls (.fl .f32))))) .nil) (.cons (.one .bool) .nil) (fun x => r_spec_l06Is M x.1.1 x.1.2.1 x.1.2.2) (fun x => F_spec_l06Is (p_spec_l06Is M x.1.1 x.1.2.1 x.1.2.2))

/-- laws.toFloat32S, loop 0: (.tv 0 true (.ls (.fl .f32))) (.to 3 0 (.fl .f32)) (.tv 4 false (.int .i64)) (.tn 2) -/
def st_laws_toFloat32S_0 (M : FOps) (v0 : (List Nat)) (v1 : (List Nat)) (v2 : Int) : Option (((List Nat) × (List Nat) × Int × Unit × Unit) ⊕ ((List Nat) × Unit × Unit)) :=
  (brT (decide (v2 < (↑v0.length : Int))) (brT (decide (0 ≤ v2) && decide (v2 < (↑v0.length : Int))) (brT (decide (0 ≤ v2) && decide (v2 < (↑v1.length : Int))) (brT (v2.toNat.blt v1.length && true) (brT (v1.length.beq (v1.set v2.toNat (v0.getD v2.toNat 0)).length && true) (some (.inl (v0, (v1.set v2.toNat (v0.getD v2.toNat 0), (IntKind.i64.wrap (v2 + 1), ((), ())))))) none) none) none) none) (brT (v1.length.beq v1.length && true) (some (.inr (v1, ((), ())))) none))
def W_laws_toFloat32S_0 (M : FOps) : ((List Nat) × (List Nat) × Int × Unit × Unit) → Option ((List Nat) × Unit × Unit) := runW (fun x => st_laws_toFloat32S_0 M x.1 x.2.1 x.2.2.1)
def L_laws_toFloat32S_0 (M : FOps) : LSpec := mkL (.cons (.tv 0 true (.ls (.fl .f32))) (.cons (.to 3 0 (.fl .f32)) (.cons (.tv 4 false (.int .i64)) (.cons (.tn 2) .nil)))) [((.exit 0), (.cons (.to 3 0 (.fl .f32)) (.cons (.tn 2) .nil)))] 1 0 (W_laws_toFloat32S_0 M)
def c0_laws_toFloat32S (M : FOps) (a0 : (List Nat)) : Option (List Nat × Unit × Unit) := W_laws_toFloat32S_0 M (a0, List.replicate (↑a0.length : Int).toNat 0, 0, (), ())
def F_laws_toFloat32S (r : (List Nat)) : AS.Ty (.cons (.one (.ls (.fl .f32))) .nil) × List CS := ((r, ()), [])
def p_laws_toFloat32S (M : FOps) (a0 : (List Nat)) : (List Nat) :=
  ((c0_laws_toFloat32S M a0).getD ([], (), ())).fst
def r_laws_toFloat32S (M : FOps) (a0 : (List Nat)) : Bool :=
  ((decide ((↑a0.length : Int) ≤ (↑a0.length : Int)) && decide ((↑a0.length : Int) ≤ Int.ofNat 1073741824)) && (((List.replicate (↑a0.length : Int).toNat 0).length.beq (List.replicate (↑a0.length : Int).toNat 0).length && true) && (((c0_laws_toFloat32S M a0).isSome) && (((List.length ((c0_laws_toFloat32S M a0).getD ([], (), ())).fst).beq (List.length ((c0_laws_toFloat32S M a0).getD ([], (), ())).fst) && true) && true))))
def S_laws_toFloat32S (M : FOps) : FSpec := mkSpec (.cons (.one (.ls (.fl .f32))) .nil) (.cons (.one (.ls (.fl .f32))) .nil) (fun x => r_laws_toFloat32S M x.1) (fun x => F_laws_toFloat32S (p_laws_toFloat32S M x.1))

def c0_laws_toGrid (M : FOps) (a0_0 : Int) (a0_1 : Int) (a0_2 : (List Nat)) : List Nat := p_laws_toFloat32S M a0_2
def F_laws_toGrid (r : Int × Int × (List Nat)) : AS.Ty (.cons (.agg (.pair (.int .i64) (.pair (.int .i64) (.ls (.fl .f32))))) .nil) × List CS := (((r.1, (r.2.1, r.2.2)), ()), [])
def p_laws_toGrid (M : FOps) (a0_0 : Int) (a0_1 : Int) (a0_2 : (List Nat)) : Int × Int × (List Nat) :=
  (a0_0, a0_1, (c0_laws_toGrid M a0_0 a0_1 a0_2))
def r_laws_toGrid (M : FOps) (a0_0 : Int) (a0_1 : Int) (a0_2 : (List Nat)) : Bool :=
  ((r_laws_toFloat32S M a0_2) && (((c0_laws_toGrid M a0_0 a0_1 a0_2).length.beq (c0_laws_toGrid M a0_0 a0_1 a0_2).length && true) && true))
def S_laws_toGrid (M : FOps) : FSpec := mkSpec (.cons (.agg (.pair (.int .i64) (.pair (.int .i64) (.ls (.fl .f32))))) .nil) (.cons (.agg (.pair (.int .i64) (.pair (.int .i64) (.ls (.fl .f32))))) .nil) (fun x => r_laws_toGrid M x.1.1 x.1.2.1 x.1.2.2) (fun x => F_laws_toGrid (p_laws_toGrid M x.1.1 x.1.2.1 x.1.2.2))

def F_impl_areSides (r : Bool) : AS.Ty (.cons (.one .bool) .nil) × List CS := ((r, ()), [])
def p_impl_areSides (M : FOps) (a0 : Int) (a1 : Int) : Bool :=
  (bif p_impl_within M a0 2 16 then p_impl_within M a1 2 16 else false)
def S_impl_areSides (M : FOps) : FSpec := mkSpec (.cons (.one (.int .i64)) (.cons (.one (.int .i64)) .nil)) (.cons (.one .bool) .nil) (fun _ => true) (fun x => F_impl_areSides (p_impl_areSides M x.1 x.2.1))

def F_impl_length_float32 (r : Int) : AS.Ty (.cons (.one (.int .i64)) .nil) × List CS := ((r, ()), [])
def p_impl_length_float32 (M : FOps) (a0 : (List Nat)) : Int :=
  (↑a0.length : Int)
def S_impl_length_float32 (M : FOps) : FSpec := mkSpec (.cons (.one (.ls (.fl .f32))) .nil) (.cons (.one (.int .i64)) .nil) (fun _ => true) (fun x => F_impl_length_float32 (p_impl_length_float32 M x.1))

def F_impl_ValidGrid (r : Bool) : AS.Ty (.cons (.one .bool) .nil) × List CS := ((r, ()), [])
def p_impl_ValidGrid (M : FOps) (a0_0 : Int) (a0_1 : Int) (a0_2 : (List Nat)) : Bool :=
  (bif p_impl_areSides M a0_0 a0_1 then (bif p_impl_length_float32 M a0_2 == IntKind.i64.wrap (a0_0 * a0_1) then a0_2.all fun x => p_impl_IsFinite M x else false) else false)
def r_impl_ValidGrid (M : FOps) (a0_0 : Int) (a0_1 : Int) (a0_2 : (List Nat)) : Bool :=
  (bif p_impl_areSides M a0_0 a0_1 then (bif p_impl_length_float32 M a0_2 == IntKind.i64.wrap (a0_0 * a0_1) then ((decide (a0_2.length < 4611686018427387904)) && true) else true) else true)
def S_impl_ValidGrid (M : FOps) : FSpec := mkSpec (.cons (.agg (.pair (.int .i64) (.pair (.int .i64) (.ls (.fl .f32))))) .nil) (.cons (.one .bool) .nil) (fun x => r_impl_ValidGrid M x.1.1 x.1.2.1 x.1.2.2) (fun x => F_impl_ValidGrid (p_impl_ValidGrid M x.1.1 x.1.2.1 x.1.2.2))

def F_internal_strconv_small (r : ByteArray) : AS.Ty (.cons (.one .str) .nil) × List CS := ((r, ()), [])
def p_internal_strconv_small (M : FOps) (a0 : Int) : ByteArray :=
  (bif decide (a0 < 10) then p_sub { data := #[48, 49, 50, 51, 52, 53, 54, 55, 56, 57, 97, 98, 99, 100, 101, 102, 103, 104, 105, 106, 107, 108, 109, 110, 111, 112, 113, 114, 115, 116, 117, 118, 119, 120, 121, 122] } ((some a0).getD 0).toNat ((some (IntKind.i64.wrap (a0 + 1))).getD (Int.ofNat 36)).toNat else p_sub { data := (([48, 48, 48, 49, 48, 50, 48, 51, 48, 52, 48, 53, 48, 54, 48, 55, 48, 56, 48, 57, 49, 48, 49, 49, 49, 50, 49, 51, 49, 52, 49, 53, 49, 54, 49, 55, 49, 56, 49, 57, 50, 48, 50, 49, 50, 50, 50, 51, 50, 52].append [50, 53, 50, 54, 50, 55, 50, 56, 50, 57, 51, 48, 51, 49, 51, 50, 51, 51, 51, 52, 51, 53, 51, 54, 51, 55, 51, 56, 51, 57, 52, 48, 52, 49, 52, 50, 52, 51, 52, 52, 52, 53, 52, 54, 52, 55, 52, 56, 52, 57]).append ([53, 48, 53, 49, 53, 50, 53, 51, 53, 52, 53, 53, 53, 54, 53, 55, 53, 56, 53, 57, 54, 48, 54, 49, 54, 50, 54, 51, 54, 52, 54, 53, 54, 54, 54, 55, 54, 56, 54, 57, 55, 48, 55, 49, 55, 50, 55, 51, 55, 52].append [55, 53, 55, 54, 55, 55, 55, 56, 55, 57, 56, 48, 56, 49, 56, 50, 56, 51, 56, 52, 56, 53, 56, 54, 56, 55, 56, 56, 56, 57, 57, 48, 57, 49, 57, 50, 57, 51, 57, 52, 57, 53, 57, 54, 57, 55, 57, 56, 57, 57])).toArray } ((some (IntKind.i64.wrap (a0 * 2))).getD 0).toNat ((some (IntKind.i64.wrap (IntKind.i64.wrap (a0 * 2) + 2))).getD (Int.ofNat 200)).toNat)
def r_internal_strconv_small (M : FOps) (a0 : Int) : Bool :=
  (bif decide (a0 < 10) then ((decide (0 ≤ (some a0).getD 0) && decide ((some a0).getD 0 ≤ (some (IntKind.i64.wrap (a0 + 1))).getD (Int.ofNat 36)) && decide ((some (IntKind.i64.wrap (a0 + 1))).getD (Int.ofNat 36) ≤ Int.ofNat 36)) && true) else ((decide (0 ≤ (some (IntKind.i64.wrap (a0 * 2))).getD 0) && decide ((some (IntKind.i64.wrap (a0 * 2))).getD 0 ≤ (some (IntKind.i64.wrap (IntKind.i64.wrap (a0 * 2) + 2))).getD (Int.ofNat 200)) && decide ((some (IntKind.i64.wrap (IntKind.i64.wrap (a0 * 2) + 2))).getD (Int.ofNat 200) ≤ Int.ofNat 200)) && true))
def S_internal_strconv_small (M : FOps) : FSpec := mkSpec (.cons (.one (.int .i64)) .nil) (.cons (.one .str) .nil) (fun x => r_internal_strconv_small M x.1) (fun x => F_internal_strconv_small (p_internal_strconv_small M x.1))

def F_internal_strconv_FormatInt_10 (r : ByteArray) : AS.Ty (.cons (.one .str) .nil) × List CS := ((r, ()), [])
def p_internal_strconv_FormatInt_10 (M : FOps) (a0 : Int) : ByteArray :=
  p_internal_strconv_small M a0
def r_internal_strconv_FormatInt_10 (M : FOps) (a0 : Int) : Bool :=
  ((decide (0 ≤ a0)) && ((decide (a0 < 100)) && ((r_internal_strconv_small M a0) && true)))
def S_internal_strconv_FormatInt_10 (M : FOps) : FSpec := mkSpec (.cons (.one (.int .i64)) (.cons (.lit (.int .i64 10)) .nil)) (.cons (.one .str) .nil) (fun x => r_internal_strconv_FormatInt_10 M x.1) (fun x => F_internal_strconv_FormatInt_10 (p_internal_strconv_FormatInt_10 M x.1))

def F_strconv_FormatInt_10 (r : ByteArray) : AS.Ty (.cons (.one .str) .nil) × List CS := ((r, ()), [])
def p_strconv_FormatInt_10 (M : FOps) (a0 : Int) : ByteArray :=
  p_internal_strconv_FormatInt_10 M a0
def r_strconv_FormatInt_10 (M : FOps) (a0 : Int) : Bool :=
  ((r_internal_strconv_FormatInt_10 M a0) && true)
def S_strconv_FormatInt_10 (M : FOps) : FSpec := mkSpec (.cons (.one (.int .i64)) (.cons (.lit (.int .i64 10)) .nil)) (.cons (.one .str) .nil) (fun x => r_strconv_FormatInt_10 M x.1) (fun x => F_strconv_FormatInt_10 (p_strconv_FormatInt_10 M x.1))

def F_impl_Decimal (r : ByteArray) : AS.Ty (.cons (.one .str) .nil) × List CS := ((r, ()), [])
def p_impl_Decimal (M : FOps) (a0 : Int) : ByteArray :=
  p_strconv_FormatInt_10 M a0
def r_impl_Decimal (M : FOps) (a0 : Int) : Bool :=
  ((r_strconv_FormatInt_10 M a0) && true)
def S_impl_Decimal (M : FOps) : FSpec := mkSpec (.cons (.one (.int .i64)) .nil) (.cons (.one .str) .nil) (fun x => r_impl_Decimal M x.1) (fun x => F_impl_Decimal (p_impl_Decimal M x.1))

def c0_impl_gridText (M : FOps) (a0_0 : Int) (a0_1 : Int) (a0_2 : (List Nat)) : ByteArray := p_impl_Decimal M a0_0
def c1_impl_gridText (M : FOps) (a0_0 : Int) (a0_1 : Int) (a0_2 : (List Nat)) : ByteArray := p_impl_Decimal M a0_1
def c2_impl_gridText (M : FOps) (a0_0 : Int) (a0_1 : Int) (a0_2 : (List Nat)) : ByteArray := p_impl_numbers M a0_2
def F_impl_gridText (r : ByteArray) : AS.Ty (.cons (.one .str) .nil) × List CS := ((r, ()), [])
def p_impl_gridText (M : FOps) (a0_0 : Int) (a0_1 : Int) (a0_2 : (List Nat)) : ByteArray :=
  (c0_impl_gridText M a0_0 a0_1 a0_2) ++ { data := #[44] } ++ (c1_impl_gridText M a0_0 a0_1 a0_2) ++ { data := #[59] } ++ (c2_impl_gridText M a0_0 a0_1 a0_2)
def r_impl_gridText (M : FOps) (a0_0 : Int) (a0_1 : Int) (a0_2 : (List Nat)) : Bool :=
  ((r_impl_Decimal M a0_0) && ((((c0_impl_gridText M a0_0 a0_1 a0_2).size + 1).ble 4611686018427387904) && ((r_impl_Decimal M a0_1) && (((((c0_impl_gridText M a0_0 a0_1 a0_2) ++ { data := #[44] }).size + (c1_impl_gridText M a0_0 a0_1 a0_2).size).ble 4611686018427387904) && (((((c0_impl_gridText M a0_0 a0_1 a0_2) ++ { data := #[44] } ++ (c1_impl_gridText M a0_0 a0_1 a0_2)).size + 1).ble 4611686018427387904) && ((r_impl_numbers M a0_2) && (((((c0_impl_gridText M a0_0 a0_1 a0_2) ++ { data := #[44] } ++ (c1_impl_gridText M a0_0 a0_1 a0_2) ++ { data := #[59] }).size + (c2_impl_gridText M a0_0 a0_1 a0_2).size).ble 4611686018427387904) && true)))))))
def S_impl_gridText (M : FOps) : FSpec := mkSpec (.cons (.agg (.pair (.int .i64) (.pair (.int .i64) (.ls (.fl .f32))))) .nil) (.cons (.one .str) .nil) (fun x => r_impl_gridText M x.1.1 x.1.2.1 x.1.2.2) (fun x => F_impl_gridText (p_impl_gridText M x.1.1 x.1.2.1 x.1.2.2))

def F_impl_GridText (r : ByteArray × Bool) : AS.Ty (.cons (.one .str) (.cons (.one .bool) .nil)) × List CS := ((r.1, (r.2, ())), [])
def p_impl_GridText (M : FOps) (a0_0 : Int) (a0_1 : Int) (a0_2 : (List Nat)) : ByteArray × Bool :=
  (bif !p_impl_ValidGrid M a0_0 a0_1 a0_2 then ({ data := #[] }, false) else (p_impl_gridText M a0_0 a0_1 a0_2, true))
def r_impl_GridText (M : FOps) (a0_0 : Int) (a0_1 : Int) (a0_2 : (List Nat)) : Bool :=
  ((r_impl_ValidGrid M a0_0 a0_1 a0_2) && (bif !p_impl_ValidGrid M a0_0 a0_1 a0_2 then true else ((r_impl_gridText M a0_0 a0_1 a0_2) && true)))
def S_impl_GridText (M : FOps) : FSpec := mkSpec (.cons (.agg (.pair (.int .i64) (.pair (.int .i64) (.ls (.fl .f32))))) .nil) (.cons (.one .str) (.cons (.one .bool) .nil)) (fun x => r_impl_GridText M x.1.1 x.1.2.1 x.1.2.2) (fun x => F_impl_GridText (p_impl_GridText M x.1.1 x.1.2.1 x.1.2.2))

/-- spec.l01Dec, loop 0: (.ren 3 0) (.to 3 0 (.int .u8)) (.tv 4 false (.int .i64)) (.tv 0 false (.int .i64)) (.tv 2 false .str) -/
def st_spec_l01Dec_0 (M : FOps) (v0 : (List Int)) (v1 : Int) (v2 : Int) (v3 : ByteArray) : Option (((List Int) × Int × Int × ByteArray × Unit) ⊕ (Int × (List Int) × ByteArray × Unit)) :=
  (brT ((↑v0.length : Int) == 0) (brT (decide (v1.tmod 10 < 0)) (brT (v0.length.beq v0.length) (brT (([IntKind.u8.wrap (IntKind.i64.wrap (48 + IntKind.i64.wrap (0 - v1.tmod 10)))].length + v0.length).ble 1073741824) (brT (([IntKind.u8.wrap (IntKind.i64.wrap (48 + IntKind.i64.wrap (0 - v1.tmod 10)))] ++ v0).length.beq ([IntKind.u8.wrap (IntKind.i64.wrap (48 + IntKind.i64.wrap (0 - v1.tmod 10)))] ++ v0).length && true) (some (.inl ([IntKind.u8.wrap (IntKind.i64.wrap (48 + IntKind.i64.wrap (0 - v1.tmod 10)))] ++ v0, (IntKind.i64.wrap (v1.tdiv 10), (v2, (v3, ())))))) none) none) none) (brT (v0.length.beq v0.length) (brT (([IntKind.u8.wrap (IntKind.i64.wrap (48 + v1.tmod 10))].length + v0.length).ble 1073741824) (brT (([IntKind.u8.wrap (IntKind.i64.wrap (48 + v1.tmod 10))] ++ v0).length.beq ([IntKind.u8.wrap (IntKind.i64.wrap (48 + v1.tmod 10))] ++ v0).length && true) (some (.inl ([IntKind.u8.wrap (IntKind.i64.wrap (48 + v1.tmod 10))] ++ v0, (IntKind.i64.wrap (v1.tdiv 10), (v2, (v3, ())))))) none) none) none)) (brT (v1 != 0) (brT (decide (v1.tmod 10 < 0)) (brT (v0.length.beq v0.length) (brT (([IntKind.u8.wrap (IntKind.i64.wrap (48 + IntKind.i64.wrap (0 - v1.tmod 10)))].length + v0.length).ble 1073741824) (brT (([IntKind.u8.wrap (IntKind.i64.wrap (48 + IntKind.i64.wrap (0 - v1.tmod 10)))] ++ v0).length.beq ([IntKind.u8.wrap (IntKind.i64.wrap (48 + IntKind.i64.wrap (0 - v1.tmod 10)))] ++ v0).length && true) (some (.inl ([IntKind.u8.wrap (IntKind.i64.wrap (48 + IntKind.i64.wrap (0 - v1.tmod 10)))] ++ v0, (IntKind.i64.wrap (v1.tdiv 10), (v2, (v3, ())))))) none) none) none) (brT (v0.length.beq v0.length) (brT (([IntKind.u8.wrap (IntKind.i64.wrap (48 + v1.tmod 10))].length + v0.length).ble 1073741824) (brT (([IntKind.u8.wrap (IntKind.i64.wrap (48 + v1.tmod 10))] ++ v0).length.beq ([IntKind.u8.wrap (IntKind.i64.wrap (48 + v1.tmod 10))] ++ v0).length && true) (some (.inl ([IntKind.u8.wrap (IntKind.i64.wrap (48 + v1.tmod 10))] ++ v0, (IntKind.i64.wrap (v1.tdiv 10), (v2, (v3, ())))))) none) none) none)) (brT (v0.length.beq v0.length && true) (some (.inr (v2, (v0, (v3, ()))))) none)))
def W_spec_l01Dec_0 (M : FOps) : ((List Int) × Int × Int × ByteArray × Unit) → Option (Int × (List Int) × ByteArray × Unit) := runW (fun x => st_spec_l01Dec_0 M x.1 x.2.1 x.2.2.1 x.2.2.2.1)
def L_spec_l01Dec_0 (M : FOps) : LSpec := mkL (.ren 3 0 (.cons (.to 3 0 (.int .u8)) (.cons (.tv 4 false (.int .i64)) (.cons (.tv 0 false (.int .i64)) (.cons (.tv 2 false .str) .nil))))) [((.exit 0), (.cons (.tv 0 false (.int .i64)) (.cons (.to 3 0 (.int .u8)) (.cons (.tv 2 false .str) .nil))))] 1 0 (W_spec_l01Dec_0 M)
def c0_spec_l01Dec (M : FOps) (a0 : Int) : Option (Int × List Int × ByteArray × Unit) := W_spec_l01Dec_0 M ([], a0, a0, { data := #[] }, ())
def F_spec_l01Dec (r : ByteArray) : AS.Ty (.cons (.one .str) .nil) × List CS := ((r, ()), [])
def p_spec_l01Dec (M : FOps) (a0 : Int) : ByteArray :=
  (bif decide (((c0_spec_l01Dec M a0).getD (0, [], { data := #[] }, ())).fst < 0) then p_bytes ([45] ++ ((c0_spec_l01Dec M a0).getD (0, [], { data := #[] }, ())).snd.fst) else p_bytes ((c0_spec_l01Dec M a0).getD (0, [], { data := #[] }, ())).snd.fst)
def r_spec_l01Dec (M : FOps) (a0 : Int) : Bool :=
  (((c0_spec_l01Dec M a0).isSome) && (bif decide (((c0_spec_l01Dec M a0).getD (0, [], { data := #[] }, ())).fst < 0) then (((1 + List.length ((c0_spec_l01Dec M a0).getD (0, [], { data := #[] }, ())).snd.fst).ble 1073741824) && true) else true))
def S_spec_l01Dec (M : FOps) : FSpec := mkSpec (.cons (.one (.int .i64)) .nil) (.cons (.one .str) .nil) (fun x => r_spec_l01Dec M x.1) (fun x => F_spec_l01Dec (p_spec_l01Dec M x.1))

/-- spec.l01Text, loop 0: (.tv 0 true (.ls (.int .i64))) (.tv 3 false .str) (.tv 4 false (.int .i64)) (.tv 2 false .str) -/
def st_spec_l01Text_0 (M : FOps) (v0 : (List Int)) (v1 : ByteArray) (v2 : Int) (v3 : ByteArray) : Option (((List Int) × ByteArray × Int × ByteArray × Unit) ⊕ (ByteArray × ByteArray × Unit)) :=
  (brT (decide (v2 < (↑v0.length : Int))) (brT (decide (0 ≤ v2) && decide (v2 < (↑v0.length : Int))) (brT (r_spec_l01Dec M (v0.getD v2.toNat 0)) (brT ((1 + (p_spec_l01Dec M (v0.getD v2.toNat 0)).size).ble 4611686018427387904) (brT ((v1.size + ({ data := #[44] } ++ p_spec_l01Dec M (v0.getD v2.toNat 0)).size).ble 4611686018427387904) (some (.inl (v0, (v1 ++ ({ data := #[44] } ++ p_spec_l01Dec M (v0.getD v2.toNat 0)), (IntKind.i64.wrap (v2 + 1), (v3, ())))))) none) none) none) none) (some (.inr (v1, (v3, ())))))
def W_spec_l01Text_0 (M : FOps) : ((List Int) × ByteArray × Int × ByteArray × Unit) → Option (ByteArray × ByteArray × Unit) := runW (fun x => st_spec_l01Text_0 M x.1 x.2.1 x.2.2.1 x.2.2.2.1)
def L_spec_l01Text_0 (M : FOps) : LSpec := mkL (.cons (.tv 0 true (.ls (.int .i64))) (.cons (.tv 3 false .str) (.cons (.tv 4 false (.int .i64)) (.cons (.tv 2 false .str) .nil)))) [((.exit 0), (.cons (.tv 3 false .str) (.cons (.tv 2 false .str) .nil)))] 0 0 (W_spec_l01Text_0 M)
def c0_spec_l01Text (M : FOps) (a0 : (List Int)) : Option (ByteArray × ByteArray × Unit) := W_spec_l01Text_0 M (a0, p_spec_l01Dec M (a0.getD 0 0), 1, { data := #[] }, ())
def F_spec_l01Text (r : ByteArray) : AS.Ty (.cons (.one .str) .nil) × List CS := ((r, ()), [])
def p_spec_l01Text (M : FOps) (a0 : (List Int)) : ByteArray :=
  (bif (↑a0.length : Int) == 0 then { data := #[110, 111, 110, 101] } else ((c0_spec_l01Text M a0).getD ({ data := #[] }, { data := #[] }, ())).fst)
def r_spec_l01Text (M : FOps) (a0 : (List Int)) : Bool :=
  (bif (↑a0.length : Int) == 0 then true else ((decide (0 < (↑a0.length : Int))) && ((r_spec_l01Dec M (a0.getD 0 0)) && (((c0_spec_l01Text M a0).isSome) && true))))
def S_spec_l01Text (M : FOps) : FSpec := mkSpec (.cons (.one (.ls (.int .i64))) .nil) (.cons (.one .str) .nil) (fun x => r_spec_l01Text M x.1) (fun x => F_spec_l01Text (p_spec_l01Text M x.1))

def c0_spec_l08Grid (M : FOps) (a0_0 : Int) (a0_1 : Int) (a0_2 : (List Nat)) : ByteArray := p_spec_l01Text M [a0_0, a0_1]
def c1_spec_l08Grid (M : FOps) (a0_0 : Int) (a0_1 : Int) (a0_2 : (List Nat)) : ByteArray := p_spec_l01NText M a0_2
def F_spec_l08Grid (r : ByteArray) : AS.Ty (.cons (.one .str) .nil) × List CS := ((r, ()), [])
def p_spec_l08Grid (M : FOps) (a0_0 : Int) (a0_1 : Int) (a0_2 : (List Nat)) : ByteArray :=
  (c0_spec_l08Grid M a0_0 a0_1 a0_2) ++ { data := #[59] } ++ (c1_spec_l08Grid M a0_0 a0_1 a0_2)
def r_spec_l08Grid (M : FOps) (a0_0 : Int) (a0_1 : Int) (a0_2 : (List Nat)) : Bool :=
  ((r_spec_l01Text M [a0_0, a0_1]) && ((((c0_spec_l08Grid M a0_0 a0_1 a0_2).size + 1).ble 4611686018427387904) && ((r_spec_l01NText M a0_2) && (((((c0_spec_l08Grid M a0_0 a0_1 a0_2) ++ { data := #[59] }).size + (c1_spec_l08Grid M a0_0 a0_1 a0_2).size).ble 4611686018427387904) && true))))
def S_spec_l08Grid (M : FOps) : FSpec := mkSpec (.cons (.ptr (.pair (.int .i64) (.pair (.int .i64) (.ls (.fl .f32))))) .nil) (.cons (.one .str) .nil) (fun x => r_spec_l08Grid M x.1.1 x.1.2.1 x.1.2.2) (fun x => F_spec_l08Grid (p_spec_l08Grid M x.1.1 x.1.2.1 x.1.2.2))

def F_spec_GridText (r : ByteArray × Bool) : AS.Ty (.cons (.one .str) (.cons (.one .bool) .nil)) × List CS := ((r.1, (r.2, ())), [])
def p_spec_GridText (M : FOps) (a0_0 : Int) (a0_1 : Int) (a0_2 : (List Nat)) : ByteArray × Bool :=
  (bif !p_spec_l06Is M a0_0 a0_1 a0_2 then ({ data := #[] }, false) else (p_spec_l08Grid M a0_0 a0_1 a0_2, true))
def r_spec_GridText (M : FOps) (a0_0 : Int) (a0_1 : Int) (a0_2 : (List Nat)) : Bool :=
  ((r_spec_l06Is M a0_0 a0_1 a0_2) && (bif !p_spec_l06Is M a0_0 a0_1 a0_2 then true else ((r_spec_l08Grid M a0_0 a0_1 a0_2) && true)))
def S_spec_GridText (M : FOps) : FSpec := mkSpec (.cons (.agg (.pair (.int .i64) (.pair (.int .i64) (.ls (.fl .f32))))) .nil) (.cons (.one .str) (.cons (.one .bool) .nil)) (fun x => r_spec_GridText M x.1.1 x.1.2.1 x.1.2.2) (fun x => F_spec_GridText (p_spec_GridText M x.1.1 x.1.2.1 x.1.2.2))

/-- laws.eqFloat32S, loop 0: (.tv 0 true (.ls (.fl .f32))) (.tv 1 true (.ls (.fl .f32))) (.tv 5 false (.int .i64)) (.tv 4 false .bool) -/
def st_laws_eqFloat32S_0 (M : FOps) (v0 : (List Nat)) (v1 : (List Nat)) (v2 : Int) (v3 : Bool) : Option (((List Nat) × (List Nat) × Int × Bool × Unit) ⊕ ((Bool × Unit) ⊕ (Bool × Unit))) :=
  (brT (decide (v2 < (↑v0.length : Int))) (brT (decide (0 ≤ v2) && decide (v2 < (↑v0.length : Int))) (brT (decide (0 ≤ v2) && decide (v2 < (↑v1.length : Int))) (brT (!p_laws_sameFloat M (M.wid (v0.getD v2.toNat 0)) (M.wid (v1.getD v2.toNat 0))) (some (.inr (.inl (false, ())))) (some (.inl (v0, (v1, (IntKind.i64.wrap (v2 + 1), (v3, ()))))))) none) none) (some (.inr (.inr (v3, ())))))
def W_laws_eqFloat32S_0 (M : FOps) : ((List Nat) × (List Nat) × Int × Bool × Unit) → Option ((Bool × Unit) ⊕ (Bool × Unit)) := runW (fun x => st_laws_eqFloat32S_0 M x.1 x.2.1 x.2.2.1 x.2.2.2.1)
def L_laws_eqFloat32S_0 (M : FOps) : LSpec := mkL (.cons (.tv 0 true (.ls (.fl .f32))) (.cons (.tv 1 true (.ls (.fl .f32))) (.cons (.tv 5 false (.int .i64)) (.cons (.tv 4 false .bool) .nil)))) [(.ret, (.cons (.tv 4 false .bool) .nil)), ((.exit 0), (.cons (.tv 4 false .bool) .nil))] 0 0 (W_laws_eqFloat32S_0 M)
def c0_laws_eqFloat32S (M : FOps) (a0 : (List Nat)) (a1 : (List Nat)) : Option (Bool × Unit ⊕ Bool × Unit) := W_laws_eqFloat32S_0 M (a0, a1, 0, false, ())
def F_laws_eqFloat32S (r : Bool) : AS.Ty (.cons (.one .bool) .nil) × List CS := ((r, ()), [])
def p_laws_eqFloat32S (M : FOps) (a0 : (List Nat)) (a1 : (List Nat)) : Bool :=
  (bif (↑a0.length : Int) != (↑a1.length : Int) then false else (bif isL ((c0_laws_eqFloat32S M a0 a1).getD (Sum.inl (false, ()))) then (getL (false, ()) ((c0_laws_eqFloat32S M a0 a1).getD (Sum.inl (false, ())))).fst else true))
def r_laws_eqFloat32S (M : FOps) (a0 : (List Nat)) (a1 : (List Nat)) : Bool :=
  (bif (↑a0.length : Int) != (↑a1.length : Int) then true else (((c0_laws_eqFloat32S M a0 a1).isSome) && true))
def S_laws_eqFloat32S (M : FOps) : FSpec := mkSpec (.cons (.one (.ls (.fl .f32))) (.cons (.one (.ls (.fl .f32))) .nil)) (.cons (.one .bool) .nil) (fun x => r_laws_eqFloat32S M x.1 x.2.1) (fun x => F_laws_eqFloat32S (p_laws_eqFloat32S M x.1 x.2.1))

def F_laws_eqGrid (r : Bool) : AS.Ty (.cons (.one .bool) .nil) × List CS := ((r, ()), [])
def p_laws_eqGrid (M : FOps) (a0_0 : Int) (a0_1 : Int) (a0_2 : (List Nat)) (a1_0 : Int) (a1_1 : Int) (a1_2 : (List Nat)) : Bool :=
  (bif a0_0 != a1_0 then false else (bif a0_1 != a1_1 then false else (bif !p_laws_eqFloat32S M a0_2 a1_2 then false else true)))
def r_laws_eqGrid (M : FOps) (a0_0 : Int) (a0_1 : Int) (a0_2 : (List Nat)) (a1_0 : Int) (a1_1 : Int) (a1_2 : (List Nat)) : Bool :=
  (bif a0_0 != a1_0 then true else (bif a0_1 != a1_1 then true else ((r_laws_eqFloat32S M a0_2 a1_2) && true)))
def S_laws_eqGrid (M : FOps) : FSpec := mkSpec (.cons (.agg (.pair (.int .i64) (.pair (.int .i64) (.ls (.fl .f32))))) (.cons (.agg (.pair (.int .i64) (.pair (.int .i64) (.ls (.fl .f32))))) .nil)) (.cons (.one .bool) .nil) (fun x => r_laws_eqGrid M x.1.1 x.1.2.1 x.1.2.2 x.2.1.1 x.2.1.2.1 x.2.1.2.2) (fun x => F_laws_eqGrid (p_laws_eqGrid M x.1.1 x.1.2.1 x.1.2.2 x.2.1.1 x.2.1.2.1 x.2.1.2.2))

def S_laws_toGrid_fz (M : FOps) : FSpec := frzS (S_laws_toGrid M)

end
end Go.Dv
