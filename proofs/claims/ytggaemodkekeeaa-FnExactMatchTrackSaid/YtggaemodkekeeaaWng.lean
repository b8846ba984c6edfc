/- Printed by gen2.py. -/
import Derived.Test.YtggaemodkekeeaaWnd
import Derived.Test.YtggaemodkekeeaaWnc

set_option linter.unusedVariables false
set_option linter.unusedSimpArgs false

-- GENERATED BELOW (gen.py)
namespace Go.Dv
open Go.Cv
noncomputable section
/-- laws.markPlaceS, loop 0: (.to 0 0 (.pair (.fl .f32) (.fl .f32))) (.tv 1 false (.int .i64)) (.tv 5 false (.int .i64)) (.tv 4 false (.int .i64)) -/
def st_laws_markPlaceS_0 (M : FOps) (v0 : (List (Nat × Nat))) (v1 : Int) (v2 : Int) (v3 : Int) : Option (((List (Nat × Nat)) × Int × Int × Int × Unit) ⊕ (Int × Int × (List (Nat × Nat)) × Unit)) :=
  (brT (decide (v2 < (↑v0.length : Int))) (brT (decide (0 ≤ v2) && decide (v2 < (↑v0.length : Int))) (brT (v2.toNat.blt v0.length && true) (brT (decide (0 ≤ v2) && decide (v2 < (↑v0.length : Int))) (brT (v2.toNat.blt (v0.set v2.toNat (M.ofi FloatKind.f32 v1, (v0.getD v2.toNat (0, 0)).2)).length && true) (brT (v0.length.beq ((v0.set v2.toNat (M.ofi FloatKind.f32 v1, (v0.getD v2.toNat (0, 0)).2)).set v2.toNat (((v0.set v2.toNat (M.ofi FloatKind.f32 v1, (v0.getD v2.toNat (0, 0)).2)).getD v2.toNat (0, 0)).1, M.ofi FloatKind.f32 (IntKind.i64.wrap (v1 + 1)))).length && true) (some (.inl ((v0.set v2.toNat (M.ofi FloatKind.f32 v1, (v0.getD v2.toNat (0, 0)).2)).set v2.toNat (((v0.set v2.toNat (M.ofi FloatKind.f32 v1, (v0.getD v2.toNat (0, 0)).2)).getD v2.toNat (0, 0)).1, M.ofi FloatKind.f32 (IntKind.i64.wrap (v1 + 1))), (IntKind.i64.wrap (IntKind.i64.wrap (v1 + 1) + 1), (IntKind.i64.wrap (v2 + 1), (v3, ())))))) none) none) none) none) none) (some (.inr (v1, (v3, (v0, ()))))))
def W_laws_markPlaceS_0 (M : FOps) : ((List (Nat × Nat)) × Int × Int × Int × Unit) → Option (Int × Int × (List (Nat × Nat)) × Unit) := runW (fun x => st_laws_markPlaceS_0 M x.1 x.2.1 x.2.2.1 x.2.2.2.1)
def L_laws_markPlaceS_0 (M : FOps) : LSpec := mkL (.cons (.to 0 0 (.pair (.fl .f32) (.fl .f32))) (.cons (.tv 1 false (.int .i64)) (.cons (.tv 5 false (.int .i64)) (.cons (.tv 4 false (.int .i64)) .nil)))) [((.exit 0), (.cons (.tv 1 false (.int .i64)) (.cons (.tv 4 false (.int .i64)) (.cons (.ar 0 (.pair (.fl .f32) (.fl .f32))) .nil))))] 1 1 (W_laws_markPlaceS_0 M)
def c0_laws_markPlaceS (M : FOps) (a0 : (List (Nat × Nat))) (a1 : Int) : Option (Int × Int × List (Nat × Nat) × Unit) := W_laws_markPlaceS_0 M (a0, a1, 0, 0, ())
def F_laws_markPlaceS (r : Int × (List (Nat × Nat))) : AS.Ty (.cons (.one (.int .i64)) .nil) × List CS := ((r.1, ()), [.arr (.pair (.fl .f32) (.fl .f32)) r.2])
def p_laws_markPlaceS (M : FOps) (a0 : (List (Nat × Nat))) (a1 : Int) : Int × (List (Nat × Nat)) :=
  (((c0_laws_markPlaceS M a0 a1).getD (0, 0, [], ())).1, ((c0_laws_markPlaceS M a0 a1).getD (0, 0, [], ())).2.2.1)
def r_laws_markPlaceS (M : FOps) (a0 : (List (Nat × Nat))) (a1 : Int) : Bool :=
  ((a0.length.beq a0.length && true) && (((c0_laws_markPlaceS M a0 a1).isSome) && true))
def S_laws_markPlaceS (M : FOps) : FSpec := mkSpec (.cons (.own (.pair (.fl .f32) (.fl .f32))) (.cons (.one (.int .i64)) .nil)) (.cons (.one (.int .i64)) .nil) (fun x => r_laws_markPlaceS M x.1 x.2.1) (fun x => F_laws_markPlaceS (p_laws_markPlaceS M x.1 x.2.1))

def F_laws_szRoadS (r : Int) : AS.Ty (.cons (.one (.int .i64)) .nil) × List CS := ((r, ()), [])
def p_laws_szRoadS (M : FOps) (a0 : (List (Int × (Int × Int)))) (a1 : Int) : Int :=
  (bif decide (IntKind.i64.wrap (a1 - (↑a0.length : Int)) < 0) then Int.negSucc 0 else IntKind.i64.wrap (a1 - (↑a0.length : Int)))
def S_laws_szRoadS (M : FOps) : FSpec := mkSpec (.cons (.one (.ls (.pair (.int .i64) (.pair (.int .i64) (.int .i64))))) (.cons (.one (.int .i64)) .nil)) (.cons (.one (.int .i64)) .nil) (fun _ => true) (fun x => F_laws_szRoadS (p_laws_szRoadS M x.1 x.2.1))

def c0_laws_szNet (M : FOps) (a0_0 : (List (Nat × Nat))) (a0_1 : (List (Int × (Int × Int)))) (a1 : Int) : Int := p_laws_szPlaceS M a0_0 a1
def c1_laws_szNet (M : FOps) (a0_0 : (List (Nat × Nat))) (a0_1 : (List (Int × (Int × Int)))) (a1 : Int) : Int := p_laws_szRoadS M a0_1 (c0_laws_szNet M a0_0 a0_1 a1)
def F_laws_szNet (r : Int) : AS.Ty (.cons (.one (.int .i64)) .nil) × List CS := ((r, ()), [])
def p_laws_szNet (M : FOps) (a0_0 : (List (Nat × Nat))) (a0_1 : (List (Int × (Int × Int)))) (a1 : Int) : Int :=
  (bif decide ((c0_laws_szNet M a0_0 a0_1 a1) < 0) then Int.negSucc 0 else (bif decide ((c1_laws_szNet M a0_0 a0_1 a1) < 0) then Int.negSucc 0 else (c1_laws_szNet M a0_0 a0_1 a1)))
def S_laws_szNet (M : FOps) : FSpec := mkSpec (.cons (.agg (.pair (.ls (.pair (.fl .f32) (.fl .f32))) (.ls (.pair (.int .i64) (.pair (.int .i64) (.int .i64)))))) (.cons (.one (.int .i64)) .nil)) (.cons (.one (.int .i64)) .nil) (fun _ => true) (fun x => F_laws_szNet (p_laws_szNet M x.1.1 x.1.2 x.2.1))

def F_laws_toRoad (r : Int × Int × Int) : AS.Ty (.cons (.agg (.pair (.int .i64) (.pair (.int .i64) (.int .i64)))) .nil) × List CS := (((r.1, (r.2.1, r.2.2)), ()), [])
def p_laws_toRoad (M : FOps) (a0_0 : Int) (a0_1 : Int) (a0_2 : Int) : Int × Int × Int :=
  (a0_0, a0_1, a0_2)
def S_laws_toRoad (M : FOps) : FSpec := mkSpec (.cons (.agg (.pair (.int .i64) (.pair (.int .i64) (.int .i64)))) .nil) (.cons (.agg (.pair (.int .i64) (.pair (.int .i64) (.int .i64)))) .nil) (fun _ => true) (fun x => F_laws_toRoad (p_laws_toRoad M x.1.1 x.1.2.1 x.1.2.2))

/-- laws.toRoadS, loop 0: (.tv 0 true (.ls (.pair (.int .i64) (.pair (.int .i64) (.int .i64))))) (.to 3 0 (.pair (.int .i64) (.pair (.int .i64) (.int .i64)))) (.tv 4 false (.int .i64)) (.tn 2) -/
def k0_laws_toRoadS_0 (M : FOps) (v0 : (List (Int × (Int × Int)))) (v1 : (List (Int × (Int × Int)))) (v2 : Int) : Int × Int × Int := p_laws_toRoad M (v0.getD v2.toNat (0, 0, 0)).1 (v0.getD v2.toNat (0, 0, 0)).2.1 (v0.getD v2.toNat (0, 0, 0)).2.2
def st_laws_toRoadS_0 (M : FOps) (v0 : (List (Int × (Int × Int)))) (v1 : (List (Int × (Int × Int)))) (v2 : Int) : Option (((List (Int × (Int × Int))) × (List (Int × (Int × Int))) × Int × Unit × Unit) ⊕ ((List (Int × (Int × Int))) × Unit × Unit)) :=
  (brT (decide (v2 < (↑v0.length : Int))) (brT (decide (0 ≤ v2) && decide (v2 < (↑v0.length : Int))) (brT (decide (0 ≤ v2) && decide (v2 < (↑v1.length : Int))) (brT (v2.toNat.blt v1.length && true) (brT (v1.length.beq (v1.set v2.toNat ((k0_laws_toRoadS_0 M v0 v1 v2).1, (k0_laws_toRoadS_0 M v0 v1 v2).2.1, (k0_laws_toRoadS_0 M v0 v1 v2).2.2)).length && true) (some (.inl (v0, (v1.set v2.toNat ((k0_laws_toRoadS_0 M v0 v1 v2).1, (k0_laws_toRoadS_0 M v0 v1 v2).2.1, (k0_laws_toRoadS_0 M v0 v1 v2).2.2), (IntKind.i64.wrap (v2 + 1), ((), ())))))) none) none) none) none) (brT (v1.length.beq v1.length && true) (some (.inr (v1, ((), ())))) none))
def W_laws_toRoadS_0 (M : FOps) : ((List (Int × (Int × Int))) × (List (Int × (Int × Int))) × Int × Unit × Unit) → Option ((List (Int × (Int × Int))) × Unit × Unit) := runW (fun x => st_laws_toRoadS_0 M x.1 x.2.1 x.2.2.1)
def L_laws_toRoadS_0 (M : FOps) : LSpec := mkL (.cons (.tv 0 true (.ls (.pair (.int .i64) (.pair (.int .i64) (.int .i64))))) (.cons (.to 3 0 (.pair (.int .i64) (.pair (.int .i64) (.int .i64)))) (.cons (.tv 4 false (.int .i64)) (.cons (.tn 2) .nil)))) [((.exit 0), (.cons (.to 3 0 (.pair (.int .i64) (.pair (.int .i64) (.int .i64)))) (.cons (.tn 2) .nil)))] 1 0 (W_laws_toRoadS_0 M)
def c0_laws_toRoadS (M : FOps) (a0 : (List (Int × (Int × Int)))) : Option (List (Int × Int × Int) × Unit × Unit) := W_laws_toRoadS_0 M (a0, List.replicate (↑a0.length : Int).toNat ((0 : Int), (0 : Int), (0 : Int)), 0, (), ())
def F_laws_toRoadS (r : (List (Int × (Int × Int)))) : AS.Ty (.cons (.one (.ls (.pair (.int .i64) (.pair (.int .i64) (.int .i64))))) .nil) × List CS := ((r, ()), [])
def p_laws_toRoadS (M : FOps) (a0 : (List (Int × (Int × Int)))) : (List (Int × (Int × Int))) :=
  ((c0_laws_toRoadS M a0).getD ([], (), ())).1
def r_laws_toRoadS (M : FOps) (a0 : (List (Int × (Int × Int)))) : Bool :=
  ((decide ((↑a0.length : Int) ≤ (↑a0.length : Int)) && decide ((↑a0.length : Int) ≤ Int.ofNat 1073741824)) && (((List.replicate (↑a0.length : Int).toNat ((0 : Int), (0 : Int), (0 : Int))).length.beq (List.replicate (↑a0.length : Int).toNat ((0 : Int), (0 : Int), (0 : Int))).length && true) && (((c0_laws_toRoadS M a0).isSome) && (((List.length ((c0_laws_toRoadS M a0).getD ([], (), ())).1).beq (List.length ((c0_laws_toRoadS M a0).getD ([], (), ())).1) && true) && true))))
def S_laws_toRoadS (M : FOps) : FSpec := mkSpec (.cons (.one (.ls (.pair (.int .i64) (.pair (.int .i64) (.int .i64))))) .nil) (.cons (.one (.ls (.pair (.int .i64) (.pair (.int .i64) (.int .i64))))) .nil) (fun x => r_laws_toRoadS M x.1) (fun x => F_laws_toRoadS (p_laws_toRoadS M x.1))

def c0_laws_toNet (M : FOps) (a0_0 : (List (Nat × Nat))) (a0_1 : (List (Int × (Int × Int)))) : List (Int × Int × Int) := p_laws_toRoadS M a0_1
def F_laws_toNet (r : (List (Nat × Nat)) × (List (Int × (Int × Int)))) : AS.Ty (.cons (.agg (.pair (.ls (.pair (.fl .f32) (.fl .f32))) (.ls (.pair (.int .i64) (.pair (.int .i64) (.int .i64)))))) .nil) × List CS := (((r.1, r.2), ()), [])
def p_laws_toNet (M : FOps) (a0_0 : (List (Nat × Nat))) (a0_1 : (List (Int × (Int × Int)))) : (List (Nat × Nat)) × (List (Int × (Int × Int))) :=
  (a0_0, (c0_laws_toNet M a0_0 a0_1))
def r_laws_toNet (M : FOps) (a0_0 : (List (Nat × Nat))) (a0_1 : (List (Int × (Int × Int)))) : Bool :=
  ((decide (a0_0.length ≤ 1073741824)) && ((r_laws_toRoadS M a0_1) && ((a0_0.length.beq a0_0.length && (c0_laws_toNet M a0_0 a0_1).length.beq (c0_laws_toNet M a0_0 a0_1).length && true) && true)))
def S_laws_toNet (M : FOps) : FSpec := mkSpec (.cons (.agg (.pair (.ls (.pair (.fl .f32) (.fl .f32))) (.ls (.pair (.int .i64) (.pair (.int .i64) (.int .i64)))))) .nil) (.cons (.agg (.pair (.ls (.pair (.fl .f32) (.fl .f32))) (.ls (.pair (.int .i64) (.pair (.int .i64) (.int .i64)))))) .nil) (fun x => r_laws_toNet M x.1.1 x.1.2) (fun x => F_laws_toNet (p_laws_toNet M x.1.1 x.1.2))

def S_laws_toNet_fz (M : FOps) : FSpec := frzS (S_laws_toNet M)

def F_laws_eqRoad (r : Bool) : AS.Ty (.cons (.one .bool) .nil) × List CS := ((r, ()), [])
def p_laws_eqRoad (M : FOps) (a0_0 : Int) (a0_1 : Int) (a0_2 : Int) (a1_0 : Int) (a1_1 : Int) (a1_2 : Int) : Bool :=
  (bif a0_0 != a1_0 then false else (bif a0_1 != a1_1 then false else (bif a0_2 != a1_2 then false else true)))
def S_laws_eqRoad (M : FOps) : FSpec := mkSpec (.cons (.agg (.pair (.int .i64) (.pair (.int .i64) (.int .i64)))) (.cons (.agg (.pair (.int .i64) (.pair (.int .i64) (.int .i64)))) .nil)) (.cons (.one .bool) .nil) (fun _ => true) (fun x => F_laws_eqRoad (p_laws_eqRoad M x.1.1 x.1.2.1 x.1.2.2 x.2.1.1 x.2.1.2.1 x.2.1.2.2))

/-- laws.eqRoadS, loop 0: (.tv 0 true (.ls (.pair (.int .i64) (.pair (.int .i64) (.int .i64))))) (.tv 1 true (.ls (.pair (.int .i64) (.pair (.int .i64) (.int .i64))))) (.tv 5 false (.int .i64)) (.tv 4 false .bool) -/
def st_laws_eqRoadS_0 (M : FOps) (v0 : (List (Int × (Int × Int)))) (v1 : (List (Int × (Int × Int)))) (v2 : Int) (v3 : Bool) : Option (((List (Int × (Int × Int))) × (List (Int × (Int × Int))) × Int × Bool × Unit) ⊕ ((Bool × Unit) ⊕ (Bool × Unit))) :=
  (brT (decide (v2 < (↑v0.length : Int))) (brT (decide (0 ≤ v2) && decide (v2 < (↑v0.length : Int))) (brT (decide (0 ≤ v2) && decide (v2 < (↑v1.length : Int))) (brT (!p_laws_eqRoad M (v0.getD v2.toNat (0, 0, 0)).1 (v0.getD v2.toNat (0, 0, 0)).2.1 (v0.getD v2.toNat (0, 0, 0)).2.2 (v1.getD v2.toNat (0, 0, 0)).1 (v1.getD v2.toNat (0, 0, 0)).2.1 (v1.getD v2.toNat (0, 0, 0)).2.2) (some (.inr (.inl (false, ())))) (some (.inl (v0, (v1, (IntKind.i64.wrap (v2 + 1), (v3, ()))))))) none) none) (some (.inr (.inr (v3, ())))))
def W_laws_eqRoadS_0 (M : FOps) : ((List (Int × (Int × Int))) × (List (Int × (Int × Int))) × Int × Bool × Unit) → Option ((Bool × Unit) ⊕ (Bool × Unit)) := runW (fun x => st_laws_eqRoadS_0 M x.1 x.2.1 x.2.2.1 x.2.2.2.1)
def L_laws_eqRoadS_0 (M : FOps) : LSpec := mkL (.cons (.tv 0 true (.ls (.pair (.int .i64) (.pair (.int .i64) (.int .i64))))) (.cons (.tv 1 true (.ls (.pair (.int .i64) (.pair (.int .i64) (.int .i64))))) (.cons (.tv 5 false (.int .i64)) (.cons (.tv 4 false .bool) .nil)))) [(.ret, (.cons (.tv 4 false .bool) .nil)), ((.exit 0), (.cons (.tv 4 false .bool) .nil))] 0 0 (W_laws_eqRoadS_0 M)
def c0_laws_eqRoadS (M : FOps) (a0 : (List (Int × (Int × Int)))) (a1 : (List (Int × (Int × Int)))) : Option (Bool × Unit ⊕ Bool × Unit) := W_laws_eqRoadS_0 M (a0, a1, 0, false, ())
def F_laws_eqRoadS (r : Bool) : AS.Ty (.cons (.one .bool) .nil) × List CS := ((r, ()), [])
def p_laws_eqRoadS (M : FOps) (a0 : (List (Int × (Int × Int)))) (a1 : (List (Int × (Int × Int)))) : Bool :=
  (bif (↑a0.length : Int) != (↑a1.length : Int) then false else (bif isL ((c0_laws_eqRoadS M a0 a1).getD (Sum.inl (false, ()))) then (getL (false, ()) ((c0_laws_eqRoadS M a0 a1).getD (Sum.inl (false, ())))).1 else true))
def r_laws_eqRoadS (M : FOps) (a0 : (List (Int × (Int × Int)))) (a1 : (List (Int × (Int × Int)))) : Bool :=
  (bif (↑a0.length : Int) != (↑a1.length : Int) then true else (((c0_laws_eqRoadS M a0 a1).isSome) && true))
def S_laws_eqRoadS (M : FOps) : FSpec := mkSpec (.cons (.one (.ls (.pair (.int .i64) (.pair (.int .i64) (.int .i64))))) (.cons (.one (.ls (.pair (.int .i64) (.pair (.int .i64) (.int .i64))))) .nil)) (.cons (.one .bool) .nil) (fun x => r_laws_eqRoadS M x.1 x.2.1) (fun x => F_laws_eqRoadS (p_laws_eqRoadS M x.1 x.2.1))

def F_laws_eqNet (r : Bool) : AS.Ty (.cons (.one .bool) .nil) × List CS := ((r, ()), [])
def p_laws_eqNet (M : FOps) (a0_0 : (List (Nat × Nat))) (a0_1 : (List (Int × (Int × Int)))) (a1_0 : (List (Nat × Nat))) (a1_1 : (List (Int × (Int × Int)))) : Bool :=
  (bif !p_laws_eqPlaceS M a0_0 a1_0 then false else (bif !p_laws_eqRoadS M a0_1 a1_1 then false else true))
def r_laws_eqNet (M : FOps) (a0_0 : (List (Nat × Nat))) (a0_1 : (List (Int × (Int × Int)))) (a1_0 : (List (Nat × Nat))) (a1_1 : (List (Int × (Int × Int)))) : Bool :=
  ((decide (a0_0.length < 4611686018427387904)) && (bif !p_laws_eqPlaceS M a0_0 a1_0 then true else ((r_laws_eqRoadS M a0_1 a1_1) && true)))
def S_laws_eqNet (M : FOps) : FSpec := mkSpec (.cons (.agg (.pair (.ls (.pair (.fl .f32) (.fl .f32))) (.ls (.pair (.int .i64) (.pair (.int .i64) (.int .i64)))))) (.cons (.agg (.pair (.ls (.pair (.fl .f32) (.fl .f32))) (.ls (.pair (.int .i64) (.pair (.int .i64) (.int .i64)))))) .nil)) (.cons (.one .bool) .nil) (fun x => r_laws_eqNet M x.1.1 x.1.2 x.2.1.1 x.2.1.2) (fun x => F_laws_eqNet (p_laws_eqNet M x.1.1 x.1.2 x.2.1.1 x.2.1.2))

/-- laws.markRoadS, loop 0: (.to 0 0 (.pair (.int .i64) (.pair (.int .i64) (.int .i64)))) (.tv 1 false (.int .i64)) (.tv 5 false (.int .i64)) (.tv 4 false (.int .i64)) -/
def st_laws_markRoadS_0 (M : FOps) (v0 : (List (Int × (Int × Int)))) (v1 : Int) (v2 : Int) (v3 : Int) : Option (((List (Int × (Int × Int))) × Int × Int × Int × Unit) ⊕ (Int × Int × (List (Int × (Int × Int))) × Unit)) :=
  (brT (decide (v2 < (↑v0.length : Int))) (brT (decide (0 ≤ v2) && decide (v2 < (↑v0.length : Int))) (brT (v2.toNat.blt v0.length && true) (brT (decide (0 ≤ v2) && decide (v2 < (↑v0.length : Int))) (brT (v2.toNat.blt (v0.set v2.toNat (v1, (v0.getD v2.toNat (0, 0, 0)).2.1, (v0.getD v2.toNat (0, 0, 0)).2.2)).length && true) (brT (decide (0 ≤ v2) && decide (v2 < (↑v0.length : Int))) (brT (v2.toNat.blt ((v0.set v2.toNat (v1, (v0.getD v2.toNat (0, 0, 0)).2.1, (v0.getD v2.toNat (0, 0, 0)).2.2)).set v2.toNat (((v0.set v2.toNat (v1, (v0.getD v2.toNat (0, 0, 0)).2.1, (v0.getD v2.toNat (0, 0, 0)).2.2)).getD v2.toNat (0, 0, 0)).1, IntKind.i64.wrap (v1 + 1), ((v0.set v2.toNat (v1, (v0.getD v2.toNat (0, 0, 0)).2.1, (v0.getD v2.toNat (0, 0, 0)).2.2)).getD v2.toNat (0, 0, 0)).2.2)).length && true) (brT (v0.length.beq (((v0.set v2.toNat (v1, (v0.getD v2.toNat (0, 0, 0)).2.1, (v0.getD v2.toNat (0, 0, 0)).2.2)).set v2.toNat (((v0.set v2.toNat (v1, (v0.getD v2.toNat (0, 0, 0)).2.1, (v0.getD v2.toNat (0, 0, 0)).2.2)).getD v2.toNat (0, 0, 0)).1, IntKind.i64.wrap (v1 + 1), ((v0.set v2.toNat (v1, (v0.getD v2.toNat (0, 0, 0)).2.1, (v0.getD v2.toNat (0, 0, 0)).2.2)).getD v2.toNat (0, 0, 0)).2.2)).set v2.toNat ((((v0.set v2.toNat (v1, (v0.getD v2.toNat (0, 0, 0)).2.1, (v0.getD v2.toNat (0, 0, 0)).2.2)).set v2.toNat (((v0.set v2.toNat (v1, (v0.getD v2.toNat (0, 0, 0)).2.1, (v0.getD v2.toNat (0, 0, 0)).2.2)).getD v2.toNat (0, 0, 0)).1, IntKind.i64.wrap (v1 + 1), ((v0.set v2.toNat (v1, (v0.getD v2.toNat (0, 0, 0)).2.1, (v0.getD v2.toNat (0, 0, 0)).2.2)).getD v2.toNat (0, 0, 0)).2.2)).getD v2.toNat (0, 0, 0)).1, (((v0.set v2.toNat (v1, (v0.getD v2.toNat (0, 0, 0)).2.1, (v0.getD v2.toNat (0, 0, 0)).2.2)).set v2.toNat (((v0.set v2.toNat (v1, (v0.getD v2.toNat (0, 0, 0)).2.1, (v0.getD v2.toNat (0, 0, 0)).2.2)).getD v2.toNat (0, 0, 0)).1, IntKind.i64.wrap (v1 + 1), ((v0.set v2.toNat (v1, (v0.getD v2.toNat (0, 0, 0)).2.1, (v0.getD v2.toNat (0, 0, 0)).2.2)).getD v2.toNat (0, 0, 0)).2.2)).getD v2.toNat (0, 0, 0)).2.1, IntKind.i64.wrap (IntKind.i64.wrap (v1 + 1) + 1))).length && true) (some (.inl (((v0.set v2.toNat (v1, (v0.getD v2.toNat (0, 0, 0)).2.1, (v0.getD v2.toNat (0, 0, 0)).2.2)).set v2.toNat (((v0.set v2.toNat (v1, (v0.getD v2.toNat (0, 0, 0)).2.1, (v0.getD v2.toNat (0, 0, 0)).2.2)).getD v2.toNat (0, 0, 0)).1, IntKind.i64.wrap (v1 + 1), ((v0.set v2.toNat (v1, (v0.getD v2.toNat (0, 0, 0)).2.1, (v0.getD v2.toNat (0, 0, 0)).2.2)).getD v2.toNat (0, 0, 0)).2.2)).set v2.toNat ((((v0.set v2.toNat (v1, (v0.getD v2.toNat (0, 0, 0)).2.1, (v0.getD v2.toNat (0, 0, 0)).2.2)).set v2.toNat (((v0.set v2.toNat (v1, (v0.getD v2.toNat (0, 0, 0)).2.1, (v0.getD v2.toNat (0, 0, 0)).2.2)).getD v2.toNat (0, 0, 0)).1, IntKind.i64.wrap (v1 + 1), ((v0.set v2.toNat (v1, (v0.getD v2.toNat (0, 0, 0)).2.1, (v0.getD v2.toNat (0, 0, 0)).2.2)).getD v2.toNat (0, 0, 0)).2.2)).getD v2.toNat (0, 0, 0)).1, (((v0.set v2.toNat (v1, (v0.getD v2.toNat (0, 0, 0)).2.1, (v0.getD v2.toNat (0, 0, 0)).2.2)).set v2.toNat (((v0.set v2.toNat (v1, (v0.getD v2.toNat (0, 0, 0)).2.1, (v0.getD v2.toNat (0, 0, 0)).2.2)).getD v2.toNat (0, 0, 0)).1, IntKind.i64.wrap (v1 + 1), ((v0.set v2.toNat (v1, (v0.getD v2.toNat (0, 0, 0)).2.1, (v0.getD v2.toNat (0, 0, 0)).2.2)).getD v2.toNat (0, 0, 0)).2.2)).getD v2.toNat (0, 0, 0)).2.1, IntKind.i64.wrap (IntKind.i64.wrap (v1 + 1) + 1)), (IntKind.i64.wrap (IntKind.i64.wrap (IntKind.i64.wrap (v1 + 1) + 1) + 1), (IntKind.i64.wrap (v2 + 1), (v3, ())))))) none) none) none) none) none) none) none) (some (.inr (v1, (v3, (v0, ()))))))
def W_laws_markRoadS_0 (M : FOps) : ((List (Int × (Int × Int))) × Int × Int × Int × Unit) → Option (Int × Int × (List (Int × (Int × Int))) × Unit) := runW (fun x => st_laws_markRoadS_0 M x.1 x.2.1 x.2.2.1 x.2.2.2.1)
def L_laws_markRoadS_0 (M : FOps) : LSpec := mkL (.cons (.to 0 0 (.pair (.int .i64) (.pair (.int .i64) (.int .i64)))) (.cons (.tv 1 false (.int .i64)) (.cons (.tv 5 false (.int .i64)) (.cons (.tv 4 false (.int .i64)) .nil)))) [((.exit 0), (.cons (.tv 1 false (.int .i64)) (.cons (.tv 4 false (.int .i64)) (.cons (.ar 0 (.pair (.int .i64) (.pair (.int .i64) (.int .i64)))) .nil))))] 1 1 (W_laws_markRoadS_0 M)
def c0_laws_markRoadS (M : FOps) (a0 : (List (Int × (Int × Int)))) (a1 : Int) : Option (Int × Int × List (Int × Int × Int) × Unit) := W_laws_markRoadS_0 M (a0, a1, 0, 0, ())
def F_laws_markRoadS (r : Int × (List (Int × (Int × Int)))) : AS.Ty (.cons (.one (.int .i64)) .nil) × List CS := ((r.1, ()), [.arr (.pair (.int .i64) (.pair (.int .i64) (.int .i64))) r.2])
def p_laws_markRoadS (M : FOps) (a0 : (List (Int × (Int × Int)))) (a1 : Int) : Int × (List (Int × (Int × Int))) :=
  (((c0_laws_markRoadS M a0 a1).getD (0, 0, [], ())).1, ((c0_laws_markRoadS M a0 a1).getD (0, 0, [], ())).2.2.1)
def r_laws_markRoadS (M : FOps) (a0 : (List (Int × (Int × Int)))) (a1 : Int) : Bool :=
  ((a0.length.beq a0.length && true) && (((c0_laws_markRoadS M a0 a1).isSome) && true))
def S_laws_markRoadS (M : FOps) : FSpec := mkSpec (.cons (.own (.pair (.int .i64) (.pair (.int .i64) (.int .i64)))) (.cons (.one (.int .i64)) .nil)) (.cons (.one (.int .i64)) .nil) (fun x => r_laws_markRoadS M x.1 x.2.1) (fun x => F_laws_markRoadS (p_laws_markRoadS M x.1 x.2.1))

def c0_laws_markNet (M : FOps) (a0_0 : (List (Nat × Nat))) (a0_1 : (List (Int × (Int × Int)))) (a1 : Int) : Int × List (Nat × Nat) := p_laws_markPlaceS M a0_0 a1
def c1_laws_markNet (M : FOps) (a0_0 : (List (Nat × Nat))) (a0_1 : (List (Int × (Int × Int)))) (a1 : Int) : Int × List (Int × Int × Int) := p_laws_markRoadS M a0_1 (c0_laws_markNet M a0_0 a0_1 a1).1
def F_laws_markNet (r : Int × (List (Nat × Nat)) × (List (Int × (Int × Int)))) : AS.Ty (.cons (.one (.int .i64)) .nil) × List CS := ((r.1, ()), [.arr (.pair (.fl .f32) (.fl .f32)) r.2.1, .arr (.pair (.int .i64) (.pair (.int .i64) (.int .i64))) r.2.2])
def p_laws_markNet (M : FOps) (a0_0 : (List (Nat × Nat))) (a0_1 : (List (Int × (Int × Int)))) (a1 : Int) : Int × (List (Nat × Nat)) × (List (Int × (Int × Int))) :=
  ((c1_laws_markNet M a0_0 a0_1 a1).1, (c0_laws_markNet M a0_0 a0_1 a1).2, (c1_laws_markNet M a0_0 a0_1 a1).2)
def r_laws_markNet (M : FOps) (a0_0 : (List (Nat × Nat))) (a0_1 : (List (Int × (Int × Int)))) (a1 : Int) : Bool :=
  ((a0_0.length.beq a0_0.length && true && r_laws_markPlaceS M a0_0 a1) && ((a0_1.length.beq a0_1.length && true && r_laws_markRoadS M a0_1 (c0_laws_markNet M a0_0 a0_1 a1).1) && true))
def S_laws_markNet (M : FOps) : FSpec := mkSpec (.cons (.ao2 (.pair (.fl .f32) (.fl .f32)) (.pair (.int .i64) (.pair (.int .i64) (.int .i64)))) (.cons (.one (.int .i64)) .nil)) (.cons (.one (.int .i64)) .nil) (fun x => r_laws_markNet M x.1.1 x.1.2 x.2.1) (fun x => F_laws_markNet (p_laws_markNet M x.1.1 x.1.2 x.2.1))

/-- laws.markInt64S, loop 0: (.to 0 0 (.int .i64)) (.tv 1 false (.int .i64)) (.tv 5 false (.int .i64)) (.tv 4 false (.int .i64)) -/
def st_laws_markInt64S_0 (M : FOps) (v0 : (List Int)) (v1 : Int) (v2 : Int) (v3 : Int) : Option (((List Int) × Int × Int × Int × Unit) ⊕ (Int × Int × (List Int) × Unit)) :=
  (brT (decide (v2 < (↑v0.length : Int))) (brT (decide (0 ≤ v2) && decide (v2 < (↑v0.length : Int))) (brT (v2.toNat.blt v0.length && true) (brT (v0.length.beq (v0.set v2.toNat v1).length && true) (some (.inl (v0.set v2.toNat v1, (IntKind.i64.wrap (v1 + 1), (IntKind.i64.wrap (v2 + 1), (v3, ())))))) none) none) none) (some (.inr (v1, (v3, (v0, ()))))))
def W_laws_markInt64S_0 (M : FOps) : ((List Int) × Int × Int × Int × Unit) → Option (Int × Int × (List Int) × Unit) := runW (fun x => st_laws_markInt64S_0 M x.1 x.2.1 x.2.2.1 x.2.2.2.1)
def L_laws_markInt64S_0 (M : FOps) : LSpec := mkL (.cons (.to 0 0 (.int .i64)) (.cons (.tv 1 false (.int .i64)) (.cons (.tv 5 false (.int .i64)) (.cons (.tv 4 false (.int .i64)) .nil)))) [((.exit 0), (.cons (.tv 1 false (.int .i64)) (.cons (.tv 4 false (.int .i64)) (.cons (.ar 0 (.int .i64)) .nil))))] 1 1 (W_laws_markInt64S_0 M)
def c0_laws_markInt64S (M : FOps) (a0 : (List Int)) (a1 : Int) : Option (Int × Int × List Int × Unit) := W_laws_markInt64S_0 M (a0, a1, 0, 0, ())
def F_laws_markInt64S (r : Int × (List Int)) : AS.Ty (.cons (.one (.int .i64)) .nil) × List CS := ((r.1, ()), [.arr (.int .i64) r.2])
def p_laws_markInt64S (M : FOps) (a0 : (List Int)) (a1 : Int) : Int × (List Int) :=
  (((c0_laws_markInt64S M a0 a1).getD (0, 0, [], ())).1, ((c0_laws_markInt64S M a0 a1).getD (0, 0, [], ())).2.2.1)
def r_laws_markInt64S (M : FOps) (a0 : (List Int)) (a1 : Int) : Bool :=
  ((a0.length.beq a0.length && true) && (((c0_laws_markInt64S M a0 a1).isSome) && true))
def S_laws_markInt64S (M : FOps) : FSpec := mkSpec (.cons (.own (.int .i64)) (.cons (.one (.int .i64)) .nil)) (.cons (.one (.int .i64)) .nil) (fun x => r_laws_markInt64S M x.1 x.2.1) (fun x => F_laws_markInt64S (p_laws_markInt64S M x.1 x.2.1))

/-- laws.heldInt64S, loop 0: (.tv 0 true (.ls (.int .i64))) (.tv 1 false (.int .i64)) (.tv 5 false (.int .i64)) (.tv 4 false (.int .i64)) -/
def st_laws_heldInt64S_0 (M : FOps) (v0 : (List Int)) (v1 : Int) (v2 : Int) (v3 : Int) : Option (((List Int) × Int × Int × Int × Unit) ⊕ ((Int × Unit) ⊕ (Int × Int × Unit))) :=
  (brT (decide (v2 < (↑v0.length : Int))) (brT (decide (0 ≤ v2) && decide (v2 < (↑v0.length : Int))) (brT (v0.getD v2.toNat 0 != v1) (some (.inr (.inl (Int.negSucc 0, ())))) (some (.inl (v0, (IntKind.i64.wrap (v1 + 1), (IntKind.i64.wrap (v2 + 1), (v3, ()))))))) none) (some (.inr (.inr (v1, (v3, ()))))))
def W_laws_heldInt64S_0 (M : FOps) : ((List Int) × Int × Int × Int × Unit) → Option ((Int × Unit) ⊕ (Int × Int × Unit)) := runW (fun x => st_laws_heldInt64S_0 M x.1 x.2.1 x.2.2.1 x.2.2.2.1)
def L_laws_heldInt64S_0 (M : FOps) : LSpec := mkL (.cons (.tv 0 true (.ls (.int .i64))) (.cons (.tv 1 false (.int .i64)) (.cons (.tv 5 false (.int .i64)) (.cons (.tv 4 false (.int .i64)) .nil)))) [(.ret, (.cons (.tv 4 false (.int .i64)) .nil)), ((.exit 0), (.cons (.tv 1 false (.int .i64)) (.cons (.tv 4 false (.int .i64)) .nil)))] 0 0 (W_laws_heldInt64S_0 M)
def c0_laws_heldInt64S (M : FOps) (a0 : (List Int)) (a1 : Int) : Option (Int × Unit ⊕ Int × Int × Unit) := W_laws_heldInt64S_0 M (a0, a1, 0, 0, ())
def F_laws_heldInt64S (r : Int) : AS.Ty (.cons (.one (.int .i64)) .nil) × List CS := ((r, ()), [])
def p_laws_heldInt64S (M : FOps) (a0 : (List Int)) (a1 : Int) : Int :=
  (bif isL ((c0_laws_heldInt64S M a0 a1).getD (Sum.inl (0, ()))) then (getL (0, ()) ((c0_laws_heldInt64S M a0 a1).getD (Sum.inl (0, ())))).1 else (getR (0, 0, ()) ((c0_laws_heldInt64S M a0 a1).getD (Sum.inl (0, ())))).1)
def r_laws_heldInt64S (M : FOps) (a0 : (List Int)) (a1 : Int) : Bool :=
  (((c0_laws_heldInt64S M a0 a1).isSome) && true)
def S_laws_heldInt64S (M : FOps) : FSpec := mkSpec (.cons (.one (.ls (.int .i64))) (.cons (.one (.int .i64)) .nil)) (.cons (.one (.int .i64)) .nil) (fun x => r_laws_heldInt64S M x.1 x.2.1) (fun x => F_laws_heldInt64S (p_laws_heldInt64S M x.1 x.2.1))

/-- laws.eqInt64S, loop 0: (.tv 0 true (.ls (.int .i64))) (.tv 1 true (.ls (.int .i64))) (.tv 5 false (.int .i64)) (.tv 4 false .bool) -/
def st_laws_eqInt64S_0 (M : FOps) (v0 : (List Int)) (v1 : (List Int)) (v2 : Int) (v3 : Bool) : Option (((List Int) × (List Int) × Int × Bool × Unit) ⊕ ((Bool × Unit) ⊕ (Bool × Unit))) :=
  (brT (decide (v2 < (↑v0.length : Int))) (brT (decide (0 ≤ v2) && decide (v2 < (↑v0.length : Int))) (brT (decide (0 ≤ v2) && decide (v2 < (↑v1.length : Int))) (brT (v0.getD v2.toNat 0 != v1.getD v2.toNat 0) (some (.inr (.inl (false, ())))) (some (.inl (v0, (v1, (IntKind.i64.wrap (v2 + 1), (v3, ()))))))) none) none) (some (.inr (.inr (v3, ())))))
def W_laws_eqInt64S_0 (M : FOps) : ((List Int) × (List Int) × Int × Bool × Unit) → Option ((Bool × Unit) ⊕ (Bool × Unit)) := runW (fun x => st_laws_eqInt64S_0 M x.1 x.2.1 x.2.2.1 x.2.2.2.1)
def L_laws_eqInt64S_0 (M : FOps) : LSpec := mkL (.cons (.tv 0 true (.ls (.int .i64))) (.cons (.tv 1 true (.ls (.int .i64))) (.cons (.tv 5 false (.int .i64)) (.cons (.tv 4 false .bool) .nil)))) [(.ret, (.cons (.tv 4 false .bool) .nil)), ((.exit 0), (.cons (.tv 4 false .bool) .nil))] 0 0 (W_laws_eqInt64S_0 M)
def c0_laws_eqInt64S (M : FOps) (a0 : (List Int)) (a1 : (List Int)) : Option (Bool × Unit ⊕ Bool × Unit) := W_laws_eqInt64S_0 M (a0, a1, 0, false, ())
def F_laws_eqInt64S (r : Bool) : AS.Ty (.cons (.one .bool) .nil) × List CS := ((r, ()), [])
def p_laws_eqInt64S (M : FOps) (a0 : (List Int)) (a1 : (List Int)) : Bool :=
  (bif (↑a0.length : Int) != (↑a1.length : Int) then false else (bif isL ((c0_laws_eqInt64S M a0 a1).getD (Sum.inl (false, ()))) then (getL (false, ()) ((c0_laws_eqInt64S M a0 a1).getD (Sum.inl (false, ())))).1 else true))
def r_laws_eqInt64S (M : FOps) (a0 : (List Int)) (a1 : (List Int)) : Bool :=
  (bif (↑a0.length : Int) != (↑a1.length : Int) then true else (((c0_laws_eqInt64S M a0 a1).isSome) && true))
def S_laws_eqInt64S (M : FOps) : FSpec := mkSpec (.cons (.one (.ls (.int .i64))) (.cons (.one (.ls (.int .i64))) .nil)) (.cons (.one .bool) .nil) (fun x => r_laws_eqInt64S M x.1 x.2.1) (fun x => F_laws_eqInt64S (p_laws_eqInt64S M x.1 x.2.1))

/-- laws.toNet: its arrays are the call's own where a certain array is there already and another one is not yet; else they are lists that nobody writes -/
def pkNet (hp : Hp) : Bool := match hp 2 0, hp 3 0 with | some _, none => true | _, _ => false
def S_laws_toNet_pk (M : FOps) : FSpec := fun hp args => bif pkNet hp then S_laws_toNet M hp args else S_laws_toNet_fz M hp args

end
end Go.Dv
