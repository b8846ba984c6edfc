/- Printed by gen2.py. -/
import Derived.Test.YtgfplcpjnlignaaDoorZli
import Derived.Test.YtgfplcpjnlignaaDoorZke

set_option linter.unusedVariables false
set_option linter.unusedSimpArgs false

-- GENERATED BELOW (gen.py)
namespace Go.Dv
open Go.Cv
noncomputable section
/-- spec.l07Name, loop 0: (.tv 0 false .str) (.tv 3 false (.int .i64)) (.tv 2 false .bool) -/
def st_spec_l07Name_0 (M : FOps) (v0 : ByteArray) (v1 : Int) (v2 : Bool) : Option ((ByteArray × Int × Bool × Unit) ⊕ ((Bool × Unit) ⊕ (ByteArray × Bool × Unit))) :=
  (brT (decide (v1 < (↑v0.size : Int))) (brT (decide (0 ≤ v1) && decide (v1 < (↑v0.size : Int))) (brT (decide (p_byteAt v0 v1 < 97)) (some (.inr (.inl (false, ())))) (brT (decide (0 ≤ v1) && decide (v1 < (↑v0.size : Int))) (brT (decide (p_byteAt v0 v1 > 122)) (some (.inr (.inl (false, ())))) (some (.inl (v0, (IntKind.i64.wrap (v1 + 1), (v2, ())))))) none)) none) (some (.inr (.inr (v0, (v2, ()))))))
def W_spec_l07Name_0 (M : FOps) : (ByteArray × Int × Bool × Unit) → Option ((Bool × Unit) ⊕ (ByteArray × Bool × Unit)) := runW (fun x => st_spec_l07Name_0 M x.1 x.2.1 x.2.2.1)
def c0_spec_l07Name (M : FOps) (a0 : ByteArray) : Option (Bool × Unit ⊕ ByteArray × Bool × Unit) := W_spec_l07Name_0 M (a0, 0, false, ())
def p_spec_l07Name (M : FOps) (a0 : ByteArray) : Bool :=
  (bif isL ((c0_spec_l07Name M a0).getD (Sum.inl (false, ()))) then (getL (false, ()) ((c0_spec_l07Name M a0).getD (Sum.inl (false, ())))).fst else (bif decide ((↑(ByteArray.size (getR ({ data := #[] }, false, ()) ((c0_spec_l07Name M a0).getD (Sum.inl (false, ())))).fst) : Int) ≥ 1) then decide ((↑(ByteArray.size (getR ({ data := #[] }, false, ()) ((c0_spec_l07Name M a0).getD (Sum.inl (false, ())))).fst) : Int) ≤ 8) else false))
def r_spec_l07Name (M : FOps) (a0 : ByteArray) : Bool :=
  (((c0_spec_l07Name M a0).isSome) && true)
def c0_spec_l02Step (M : FOps) (a0 : Nat) : Nat := p_math_Floor M (M.bin BinOp.add FloatKind.f64 (M.bin BinOp.mul FloatKind.f64 (M.wid a0) 4715268809856909312) 4602678819172646912)
def p_spec_l02Step (M : FOps) (a0 : Nat) : Int :=
  M.toi FloatKind.f64 (c0_spec_l02Step M a0) IntKind.i64
def r_spec_l02Step (M : FOps) (a0 : Nat) : Bool :=
  ((M.toiOk FloatKind.f64 (c0_spec_l02Step M a0) IntKind.i64) && true)
def c0_spec_StepsOf (M : FOps) (a0_0 : Nat) (a0_1 : Nat) : Int := p_spec_l02Step M a0_1
def p_spec_StepsOf (M : FOps) (a0_0 : Nat) (a0_1 : Nat) : Int × Int × Bool :=
  (bif !p_spec_l02Is M a0_0 a0_1 then (0, 0, false) else (bif (c0_spec_StepsOf M a0_0 a0_1) == 8388608 then (p_spec_l02Step M a0_0, Int.negSucc 8388607, true) else (p_spec_l02Step M a0_0, (c0_spec_StepsOf M a0_0 a0_1), true)))
def r_spec_StepsOf (M : FOps) (a0_0 : Nat) (a0_1 : Nat) : Bool :=
  (bif !p_spec_l02Is M a0_0 a0_1 then true else ((r_spec_l02Step M a0_1) && (bif (c0_spec_StepsOf M a0_0 a0_1) == 8388608 then ((r_spec_l02Step M a0_0) && true) else ((r_spec_l02Step M a0_0) && true))))
def F_spec_PlaceOfSteps (r : Nat × Nat × Bool) : AS.Ty (.cons (.agg (.pair (.fl .f32) (.fl .f32))) (.cons (.one .bool) .nil)) × List CS := (((r.1, r.2.1), (r.2.2, ())), [])
def p_spec_PlaceOfSteps (M : FOps) (a0 : Int) (a1 : Int) : Nat × Nat × Bool :=
  (bif !p_spec_l00In M a0 (Int.negSucc 4194303) 4194304 then (0, 0, false) else (bif !p_spec_l00In M a1 (Int.negSucc 8388607) 8388607 then (0, 0, false) else (M.bin BinOp.quo FloatKind.f32 (M.ofi FloatKind.f32 a0) 1266679808, M.bin BinOp.quo FloatKind.f32 (M.ofi FloatKind.f32 a1) 1266679808, true)))
def S_spec_PlaceOfSteps (M : FOps) : FSpec := mkSpec (.cons (.one (.int .i64)) (.cons (.one (.int .i64)) .nil)) (.cons (.agg (.pair (.fl .f32) (.fl .f32))) (.cons (.one .bool) .nil)) (fun _ => true) (fun x => F_spec_PlaceOfSteps (p_spec_PlaceOfSteps M x.1 x.2.1))

def p_spec_l02Same (M : FOps) (a0_0 : Nat) (a0_1 : Nat) (a1_0 : Nat) (a1_1 : Nat) : Bool :=
  (bif p_spec_l01Same M a0_0 a1_0 then p_spec_l01Same M a0_1 a1_1 else false)
def r_spec_l02Same (M : FOps) (a0_0 : Nat) (a0_1 : Nat) (a1_0 : Nat) (a1_1 : Nat) : Bool :=
  ((r_spec_l01Same M a0_0 a1_0) && (bif p_spec_l01Same M a0_0 a1_0 then ((r_spec_l01Same M a0_1 a1_1) && true) else true))
/-- spec.l07Packed, loop 0: (.tv 0 true (.ls (.pair (.fl .f32) (.fl .f32)))) (.tv 13 false (.int .i64)) (.tv 14 false (.int .i64)) (.tv 2 false .bool) -/
def st_spec_l07Packed_0 (M : FOps) (v0 : (List (Nat × Nat))) (v1 : Int) (v2 : Int) (v3 : Bool) : Option (((List (Nat × Nat)) × Int × Int × Bool × Unit) ⊕ ((Bool × Unit) ⊕ (Bool × Unit))) :=
  (brT (decide (v2 < v1)) (brT (decide (0 ≤ v2) && decide (v2 < (↑v0.length : Int))) (brT (r_spec_StepsOf M (v0.getD v2.toNat (0, 0)).fst (v0.getD v2.toNat (0, 0)).snd) (brT (!(p_spec_PlaceOfSteps M (p_spec_StepsOf M (v0.getD v2.toNat (0, 0)).fst (v0.getD v2.toNat (0, 0)).snd).fst (p_spec_StepsOf M (v0.getD v2.toNat (0, 0)).fst (v0.getD v2.toNat (0, 0)).snd).snd.fst).snd.snd) (some (.inr (.inl (false, ())))) (brT (decide (0 ≤ v2) && decide (v2 < (↑v0.length : Int))) (brT (r_spec_l02Same M (p_spec_PlaceOfSteps M (p_spec_StepsOf M (v0.getD v2.toNat (0, 0)).fst (v0.getD v2.toNat (0, 0)).snd).fst (p_spec_StepsOf M (v0.getD v2.toNat (0, 0)).fst (v0.getD v2.toNat (0, 0)).snd).snd.fst).fst (p_spec_PlaceOfSteps M (p_spec_StepsOf M (v0.getD v2.toNat (0, 0)).fst (v0.getD v2.toNat (0, 0)).snd).fst (p_spec_StepsOf M (v0.getD v2.toNat (0, 0)).fst (v0.getD v2.toNat (0, 0)).snd).snd.fst).snd.fst (v0.getD v2.toNat (0, 0)).fst (v0.getD v2.toNat (0, 0)).snd) (brT (!p_spec_l02Same M (p_spec_PlaceOfSteps M (p_spec_StepsOf M (v0.getD v2.toNat (0, 0)).fst (v0.getD v2.toNat (0, 0)).snd).fst (p_spec_StepsOf M (v0.getD v2.toNat (0, 0)).fst (v0.getD v2.toNat (0, 0)).snd).snd.fst).fst (p_spec_PlaceOfSteps M (p_spec_StepsOf M (v0.getD v2.toNat (0, 0)).fst (v0.getD v2.toNat (0, 0)).snd).fst (p_spec_StepsOf M (v0.getD v2.toNat (0, 0)).fst (v0.getD v2.toNat (0, 0)).snd).snd.fst).snd.fst (v0.getD v2.toNat (0, 0)).fst (v0.getD v2.toNat (0, 0)).snd) (some (.inr (.inl (false, ())))) (some (.inl (v0, (v1, (IntKind.i64.wrap (v2 + 1), (v3, ()))))))) none) none)) none) none) (some (.inr (.inr (v3, ())))))
def W_spec_l07Packed_0 (M : FOps) : ((List (Nat × Nat)) × Int × Int × Bool × Unit) → Option ((Bool × Unit) ⊕ (Bool × Unit)) := runW (fun x => st_spec_l07Packed_0 M x.1 x.2.1 x.2.2.1 x.2.2.2.1)
def c0_spec_l07Packed (M : FOps) (a0 : (List (Nat × Nat))) : Option (Bool × Unit ⊕ Bool × Unit) := W_spec_l07Packed_0 M (a0, (↑a0.length : Int), 0, false, ())
def p_spec_l07Packed (M : FOps) (a0 : (List (Nat × Nat))) : Bool :=
  (bif !((a0.all fun x => p_impl_ValidPlace M x.fst x.snd) && (decide (1 ≤ a0.length) && decide (a0.length ≤ 64))) then false else (bif isL ((c0_spec_l07Packed M a0).getD (Sum.inl (false, ()))) then (getL (false, ()) ((c0_spec_l07Packed M a0).getD (Sum.inl (false, ())))).fst else true))
def r_spec_l07Packed (M : FOps) (a0 : (List (Nat × Nat))) : Bool :=
  ((decide (a0.length < 4611686018427387904)) && (bif !((a0.all fun x => p_impl_ValidPlace M x.fst x.snd) && (decide (1 ≤ a0.length) && decide (a0.length ≤ 64))) then true else (((c0_spec_l07Packed M a0).isSome) && true)))
def p_spec_l07Track (M : FOps) (a0_0 : ByteArray) (a0_1 : (List (Nat × Nat))) : Bool :=
  (bif p_spec_l07Name M a0_0 then p_spec_l07Packed M a0_1 else false)
def r_spec_l07Track (M : FOps) (a0_0 : ByteArray) (a0_1 : (List (Nat × Nat))) : Bool :=
  ((r_spec_l07Name M a0_0) && (bif p_spec_l07Name M a0_0 then ((r_spec_l07Packed M a0_1) && true) else true))
def p_spec_ValidTrack (M : FOps) (a0_0 : ByteArray) (a0_1 : (List (Nat × Nat))) : Bool :=
  p_spec_l07Track M a0_0 a0_1
def r_spec_ValidTrack (M : FOps) (a0_0 : ByteArray) (a0_1 : (List (Nat × Nat))) : Bool :=
  ((r_spec_l07Track M a0_0 a0_1) && true)
def F_impl_IsName (r : Bool) : AS.Ty (.cons (.one .bool) .nil) × List CS := ((r, ()), [])
def p_impl_IsName (M : FOps) (a0 : ByteArray) : Bool :=
  (bif p_impl_within M (↑a0.size : Int) 1 8 then (p_strings_Trim M a0 { data := #[97, 98, 99, 100, 101, 102, 103, 104, 105, 106, 107, 108, 109, 110, 111, 112, 113, 114, 115, 116, 117, 118, 119, 120, 121, 122] }).toList == (ByteArray.mk #[]).toList else false)
def r_impl_IsName (M : FOps) (a0 : ByteArray) : Bool :=
  (bif p_impl_within M (↑a0.size : Int) 1 8 then ((r_strings_Trim M a0 { data := #[97, 98, 99, 100, 101, 102, 103, 104, 105, 106, 107, 108, 109, 110, 111, 112, 113, 114, 115, 116, 117, 118, 119, 120, 121, 122] }) && true) else true)
def S_impl_IsName (M : FOps) : FSpec := mkSpec (.cons (.one .str) .nil) (.cons (.one .bool) .nil) (fun x => r_impl_IsName M x.1) (fun x => F_impl_IsName (p_impl_IsName M x.1))

def c0_impl_stepOf (M : FOps) (a0 : Nat) : Nat := p_math_Floor M (M.bin BinOp.add FloatKind.f64 (M.bin BinOp.mul FloatKind.f64 (M.wid a0) 4715268809856909312) 4602678819172646912)
def F_impl_stepOf (r : Int) : AS.Ty (.cons (.one (.int .i64)) .nil) × List CS := ((r, ()), [])
def p_impl_stepOf (M : FOps) (a0 : Nat) : Int :=
  M.toi FloatKind.f64 (c0_impl_stepOf M a0) IntKind.i64
def r_impl_stepOf (M : FOps) (a0 : Nat) : Bool :=
  ((M.toiOk FloatKind.f64 (c0_impl_stepOf M a0) IntKind.i64) && true)
def S_impl_stepOf (M : FOps) : FSpec := mkSpec (.cons (.one (.fl .f32)) .nil) (.cons (.one (.int .i64)) .nil) (fun x => r_impl_stepOf M x.1) (fun x => F_impl_stepOf (p_impl_stepOf M x.1))

def c0_impl_StepsOf (M : FOps) (a0_0 : Nat) (a0_1 : Nat) : Int := p_impl_stepOf M a0_1
def F_impl_StepsOf (r : Int × Int × Bool) : AS.Ty (.cons (.one (.int .i64)) (.cons (.one (.int .i64)) (.cons (.one .bool) .nil))) × List CS := ((r.1, (r.2.1, (r.2.2, ()))), [])
def p_impl_StepsOf (M : FOps) (a0_0 : Nat) (a0_1 : Nat) : Int × Int × Bool :=
  (bif !p_impl_ValidPlace M a0_0 a0_1 then (0, 0, false) else (bif (c0_impl_StepsOf M a0_0 a0_1) == 8388608 then (p_impl_stepOf M a0_0, Int.negSucc 8388607, true) else (p_impl_stepOf M a0_0, (c0_impl_StepsOf M a0_0 a0_1), true)))
def r_impl_StepsOf (M : FOps) (a0_0 : Nat) (a0_1 : Nat) : Bool :=
  (bif !p_impl_ValidPlace M a0_0 a0_1 then true else ((r_impl_stepOf M a0_0) && ((r_impl_stepOf M a0_1) && true)))
def S_impl_StepsOf (M : FOps) : FSpec := mkSpec (.cons (.agg (.pair (.fl .f32) (.fl .f32))) .nil) (.cons (.one (.int .i64)) (.cons (.one (.int .i64)) (.cons (.one .bool) .nil))) (fun x => r_impl_StepsOf M x.1.1 x.1.2) (fun x => F_impl_StepsOf (p_impl_StepsOf M x.1.1 x.1.2))

def F_impl_PlaceOfSteps (r : Nat × Nat × Bool) : AS.Ty (.cons (.agg (.pair (.fl .f32) (.fl .f32))) (.cons (.one .bool) .nil)) × List CS := (((r.1, r.2.1), (r.2.2, ())), [])
def p_impl_PlaceOfSteps (M : FOps) (a0 : Int) (a1 : Int) : Nat × Nat × Bool :=
  (bif !p_impl_within M a0 (Int.negSucc 4194303) 4194304 then (0, 0, false) else (bif !p_impl_within M a1 (Int.negSucc 8388607) 8388607 then (0, 0, false) else (M.bin BinOp.quo FloatKind.f32 (M.ofi FloatKind.f32 a0) 1266679808, M.bin BinOp.quo FloatKind.f32 (M.ofi FloatKind.f32 a1) 1266679808, true)))
def S_impl_PlaceOfSteps (M : FOps) : FSpec := mkSpec (.cons (.one (.int .i64)) (.cons (.one (.int .i64)) .nil)) (.cons (.agg (.pair (.fl .f32) (.fl .f32))) (.cons (.one .bool) .nil)) (fun _ => true) (fun x => F_impl_PlaceOfSteps (p_impl_PlaceOfSteps M x.1 x.2.1))

def F_impl_SamePlace (r : Bool) : AS.Ty (.cons (.one .bool) .nil) × List CS := ((r, ()), [])
def p_impl_SamePlace (M : FOps) (a0_0 : Nat) (a0_1 : Nat) (a1_0 : Nat) (a1_1 : Nat) : Bool :=
  (bif p_impl_SameNumber M a0_0 a1_0 then p_impl_SameNumber M a0_1 a1_1 else false)
def r_impl_SamePlace (M : FOps) (a0_0 : Nat) (a0_1 : Nat) (a1_0 : Nat) (a1_1 : Nat) : Bool :=
  ((r_impl_SameNumber M a0_0 a1_0) && (bif p_impl_SameNumber M a0_0 a1_0 then ((r_impl_SameNumber M a0_1 a1_1) && true) else true))
def S_impl_SamePlace (M : FOps) : FSpec := mkSpec (.cons (.agg (.pair (.fl .f32) (.fl .f32))) (.cons (.agg (.pair (.fl .f32) (.fl .f32))) .nil)) (.cons (.one .bool) .nil) (fun x => r_impl_SamePlace M x.1.1 x.1.2 x.2.1.1 x.2.1.2) (fun x => F_impl_SamePlace (p_impl_SamePlace M x.1.1 x.1.2 x.2.1.1 x.2.1.2))

def c0_impl_isPacked (M : FOps) (a0_0 : Nat) (a0_1 : Nat) : Int × Int × Bool := p_impl_StepsOf M a0_0 a0_1
def c1_impl_isPacked (M : FOps) (a0_0 : Nat) (a0_1 : Nat) : Nat × Nat × Bool := p_impl_PlaceOfSteps M (c0_impl_isPacked M a0_0 a0_1).fst (c0_impl_isPacked M a0_0 a0_1).snd.fst
def F_impl_isPacked (r : Bool) : AS.Ty (.cons (.one .bool) .nil) × List CS := ((r, ()), [])
def p_impl_isPacked (M : FOps) (a0_0 : Nat) (a0_1 : Nat) : Bool :=
  (bif (c0_impl_isPacked M a0_0 a0_1).snd.snd then (bif (c1_impl_isPacked M a0_0 a0_1).snd.snd then p_impl_SamePlace M a0_0 a0_1 (c1_impl_isPacked M a0_0 a0_1).fst (c1_impl_isPacked M a0_0 a0_1).snd.fst else false) else false)
def r_impl_isPacked (M : FOps) (a0_0 : Nat) (a0_1 : Nat) : Bool :=
  ((r_impl_StepsOf M a0_0 a0_1) && (bif (c0_impl_isPacked M a0_0 a0_1).snd.snd then (bif (c1_impl_isPacked M a0_0 a0_1).snd.snd then ((r_impl_SamePlace M a0_0 a0_1 (c1_impl_isPacked M a0_0 a0_1).fst (c1_impl_isPacked M a0_0 a0_1).snd.fst) && true) else true) else true))
def S_impl_isPacked (M : FOps) : FSpec := mkSpec (.cons (.agg (.pair (.fl .f32) (.fl .f32))) .nil) (.cons (.one .bool) .nil) (fun x => r_impl_isPacked M x.1.1 x.1.2) (fun x => F_impl_isPacked (p_impl_isPacked M x.1.1 x.1.2))

def F_impl_areAll_impl_Place_1 (r : Bool) : AS.Ty (.cons (.one .bool) .nil) × List CS := ((r, ()), [])
def p_impl_areAll_impl_Place_1 (M : FOps) (a0_0 : Nat) (a0_1 : Nat) : Bool :=
  !p_impl_isPacked M a0_0 a0_1
def r_impl_areAll_impl_Place_1 (M : FOps) (a0_0 : Nat) (a0_1 : Nat) : Bool :=
  ((r_impl_isPacked M a0_0 a0_1) && true)
def S_impl_areAll_impl_Place_1 (M : FOps) : FSpec := mkSpec (.cons (.agg (.pair (.fl .f32) (.fl .f32))) (.cons (.pf 58) .nil)) (.cons (.one .bool) .nil) (fun x => r_impl_areAll_impl_Place_1 M x.1.1 x.1.2) (fun x => F_impl_areAll_impl_Place_1 (p_impl_areAll_impl_Place_1 M x.1.1 x.1.2))

/-- slices.IndexFunc[[]impl.Place,impl.Place], loop 0: (.tv 0 true (.ls (.pair (.fl .f32) (.fl .f32)))) (.tg 1 79 [(.f 58)]) (.tv 7 false (.int .i64)) (.tv 8 false (.int .i64)) (.tv 4 false (.int .i64)) -/
def st_slices_IndexFunc_impl_Place_impl_Place_k_0 (M : FOps) (v0 : (List (Nat × Nat))) (v1 : Int) (v2 : Int) (v3 : Int) : Option (((List (Nat × Nat)) × (Unit × Unit) × Int × Int × Int × Unit) ⊕ ((Int × Unit) ⊕ (Int × Unit))) :=
  (brT (decide (v2 < v1)) (brT (decide (0 ≤ v2) && decide (v2 < (↑v0.length : Int))) (brT (r_impl_areAll_impl_Place_1 M (v0.getD v2.toNat (0, 0)).fst (v0.getD v2.toNat (0, 0)).snd) (brT (p_impl_areAll_impl_Place_1 M (v0.getD v2.toNat (0, 0)).fst (v0.getD v2.toNat (0, 0)).snd) (some (.inr (.inl (v2, ())))) (some (.inl (v0, (((), ()), (v1, (IntKind.i64.wrap (v2 + 1), (v3, ())))))))) none) none) (some (.inr (.inr (v3, ())))))
def W_slices_IndexFunc_impl_Place_impl_Place_k_0 (M : FOps) : ((List (Nat × Nat)) × (Unit × Unit) × Int × Int × Int × Unit) → Option ((Int × Unit) ⊕ (Int × Unit)) := runW (fun x => st_slices_IndexFunc_impl_Place_impl_Place_k_0 M x.1 x.2.2.1 x.2.2.2.1 x.2.2.2.2.1)
def L_slices_IndexFunc_impl_Place_impl_Place_k_0 (M : FOps) : LSpec := mkL (.cons (.tv 0 true (.ls (.pair (.fl .f32) (.fl .f32)))) (.cons (.tg 1 79 [(.f 58)]) (.cons (.tv 7 false (.int .i64)) (.cons (.tv 8 false (.int .i64)) (.cons (.tv 4 false (.int .i64)) .nil))))) [(.ret, (.cons (.tv 4 false (.int .i64)) .nil)), ((.exit 0), (.cons (.tv 4 false (.int .i64)) .nil))] 0 0 (W_slices_IndexFunc_impl_Place_impl_Place_k_0 M)
def c0_slices_IndexFunc_impl_Place_impl_Place_k (M : FOps) (a0 : (List (Nat × Nat))) : Option (Int × Unit ⊕ Int × Unit) := W_slices_IndexFunc_impl_Place_impl_Place_k_0 M (a0, ((), ()), (↑a0.length : Int), 0, 0, ())
def F_slices_IndexFunc_impl_Place_impl_Place_k (r : Int) : AS.Ty (.cons (.one (.int .i64)) .nil) × List CS := ((r, ()), [])
def p_slices_IndexFunc_impl_Place_impl_Place_k (M : FOps) (a0 : (List (Nat × Nat))) : Int :=
  (bif isL ((c0_slices_IndexFunc_impl_Place_impl_Place_k M a0).getD (Sum.inl (0, ()))) then (getL (0, ()) ((c0_slices_IndexFunc_impl_Place_impl_Place_k M a0).getD (Sum.inl (0, ())))).fst else Int.negSucc 0)
def r_slices_IndexFunc_impl_Place_impl_Place_k (M : FOps) (a0 : (List (Nat × Nat))) : Bool :=
  (((c0_slices_IndexFunc_impl_Place_impl_Place_k M a0).isSome) && true)
def S_slices_IndexFunc_impl_Place_impl_Place_k (M : FOps) : FSpec := mkSpec (.cons (.one (.ls (.pair (.fl .f32) (.fl .f32)))) (.cons (.fn 79 (.cons (.pf 58) .nil)) .nil)) (.cons (.one (.int .i64)) .nil) (fun x => r_slices_IndexFunc_impl_Place_impl_Place_k M x.1) (fun x => F_slices_IndexFunc_impl_Place_impl_Place_k (p_slices_IndexFunc_impl_Place_impl_Place_k M x.1))

def c0_slices_ContainsFunc_impl_Place_impl_Place_k (M : FOps) (a0 : (List (Nat × Nat))) : Int := p_slices_IndexFunc_impl_Place_impl_Place_k M a0
def F_slices_ContainsFunc_impl_Place_impl_Place_k (r : Bool) : AS.Ty (.cons (.one .bool) .nil) × List CS := ((r, ()), [])
def p_slices_ContainsFunc_impl_Place_impl_Place_k (M : FOps) (a0 : (List (Nat × Nat))) : Bool :=
  decide ((c0_slices_ContainsFunc_impl_Place_impl_Place_k M a0) ≥ 0)
def r_slices_ContainsFunc_impl_Place_impl_Place_k (M : FOps) (a0 : (List (Nat × Nat))) : Bool :=
  ((r_slices_IndexFunc_impl_Place_impl_Place_k M a0) && true)
def S_slices_ContainsFunc_impl_Place_impl_Place_k (M : FOps) : FSpec := mkSpec (.cons (.one (.ls (.pair (.fl .f32) (.fl .f32)))) (.cons (.fn 79 (.cons (.pf 58) .nil)) .nil)) (.cons (.one .bool) .nil) (fun x => r_slices_ContainsFunc_impl_Place_impl_Place_k M x.1) (fun x => F_slices_ContainsFunc_impl_Place_impl_Place_k (p_slices_ContainsFunc_impl_Place_impl_Place_k M x.1))

def F_impl_areAll_impl_Place (r : Bool) : AS.Ty (.cons (.one .bool) .nil) × List CS := ((r, ()), [])
def p_impl_areAll_impl_Place (M : FOps) (a0 : (List (Nat × Nat))) : Bool :=
  !p_slices_ContainsFunc_impl_Place_impl_Place_k M a0
def r_impl_areAll_impl_Place (M : FOps) (a0 : (List (Nat × Nat))) : Bool :=
  ((r_slices_ContainsFunc_impl_Place_impl_Place_k M a0) && true)
def S_impl_areAll_impl_Place (M : FOps) : FSpec := mkSpec (.cons (.one (.ls (.pair (.fl .f32) (.fl .f32)))) (.cons (.fn 58 .nil) .nil)) (.cons (.one .bool) .nil) (fun x => r_impl_areAll_impl_Place M x.1) (fun x => F_impl_areAll_impl_Place (p_impl_areAll_impl_Place M x.1))

def F_impl_ArePacked (r : Bool) : AS.Ty (.cons (.one .bool) .nil) × List CS := ((r, ()), [])
def p_impl_ArePacked (M : FOps) (a0 : (List (Nat × Nat))) : Bool :=
  (bif (a0.all fun x => p_impl_ValidPlace M x.fst x.snd) && (decide (1 ≤ a0.length) && decide (a0.length ≤ 64)) then p_impl_areAll_impl_Place M a0 else false)
def r_impl_ArePacked (M : FOps) (a0 : (List (Nat × Nat))) : Bool :=
  ((decide (a0.length < 4611686018427387904)) && (bif (a0.all fun x => p_impl_ValidPlace M x.fst x.snd) && (decide (1 ≤ a0.length) && decide (a0.length ≤ 64)) then ((r_impl_areAll_impl_Place M a0) && true) else true))
def S_impl_ArePacked (M : FOps) : FSpec := mkSpec (.cons (.one (.ls (.pair (.fl .f32) (.fl .f32)))) .nil) (.cons (.one .bool) .nil) (fun x => r_impl_ArePacked M x.1) (fun x => F_impl_ArePacked (p_impl_ArePacked M x.1))

def F_impl_ValidTrack (r : Bool) : AS.Ty (.cons (.one .bool) .nil) × List CS := ((r, ()), [])
def p_impl_ValidTrack (M : FOps) (a0_0 : ByteArray) (a0_1 : (List (Nat × Nat))) : Bool :=
  (bif p_impl_IsName M a0_0 then p_impl_ArePacked M a0_1 else false)
def r_impl_ValidTrack (M : FOps) (a0_0 : ByteArray) (a0_1 : (List (Nat × Nat))) : Bool :=
  ((r_impl_IsName M a0_0) && (bif p_impl_IsName M a0_0 then ((r_impl_ArePacked M a0_1) && true) else true))
def S_impl_ValidTrack (M : FOps) : FSpec := mkSpec (.cons (.agg (.pair .str (.ls (.pair (.fl .f32) (.fl .f32))))) .nil) (.cons (.one .bool) .nil) (fun x => r_impl_ValidTrack M x.1.1 x.1.2) (fun x => F_impl_ValidTrack (p_impl_ValidTrack M x.1.1 x.1.2))

end
end Go.Dv
