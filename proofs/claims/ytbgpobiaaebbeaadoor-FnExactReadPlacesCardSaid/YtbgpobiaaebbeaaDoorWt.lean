/- Printed by gen2.py. -/
import Derived.Test.YtbgpobiaaebbeaaDoorQa

set_option linter.unusedVariables false
set_option linter.unusedSimpArgs false

-- GENERATED BELOW (gen.py)
namespace Go.Dv
open Go.Cv
noncomputable section
/-- laws.eqPlaceS, loop 0: (.tv 0 true (.ls (.pair (.fl .f32) (.fl .f32)))) (.tv 1 true (.ls (.pair (.fl .f32) (.fl .f32)))) (.tv 5 false (.int .i64)) (.tv 4 false .bool) -/
def st_laws_eqPlaceS_w_0 (M : FOps) (v0 : (List (Nat × Nat))) (v1 : (List (Nat × Nat))) (v2 : Int) (v3 : Bool) : Option (((List (Nat × Nat)) × (List (Nat × Nat)) × Int × Bool × Unit) ⊕ ((Bool × Unit) ⊕ (Bool × Unit))) :=
  (brT (decide (v2 < (↑v0.length : Int))) (brT (decide (0 ≤ v2) && decide (v2 < (↑v0.length : Int))) (brT (decide (0 ≤ v2) && decide (v2 < (↑v1.length : Int))) (brT (!p_laws_eqPlace M (v0.getD v2.toNat (0, 0)).fst (v0.getD v2.toNat (0, 0)).snd (v1.getD v2.toNat (0, 0)).fst (v1.getD v2.toNat (0, 0)).snd) (some (.inr (.inl (false, ())))) (some (.inl (v0, (v1, (IntKind.i64.wrap (v2 + 1), (v3, ()))))))) none) none) (some (.inr (.inr (v3, ())))))
def W_laws_eqPlaceS_w_0 (M : FOps) : ((List (Nat × Nat)) × (List (Nat × Nat)) × Int × Bool × Unit) → Option ((Bool × Unit) ⊕ (Bool × Unit)) := runW (fun x => st_laws_eqPlaceS_w_0 M x.1 x.2.1 x.2.2.1 x.2.2.2.1)
def L_laws_eqPlaceS_w_0 (M : FOps) : LSpec := mkL (.cons (.tv 0 true (.ls (.pair (.fl .f32) (.fl .f32)))) (.cons (.tv 1 true (.ls (.pair (.fl .f32) (.fl .f32)))) (.cons (.tv 5 false (.int .i64)) (.cons (.tv 4 false .bool) .nil)))) [(.ret, (.cons (.tv 4 false .bool) .nil)), ((.exit 0), (.cons (.tv 4 false .bool) .nil))] 0 0 (W_laws_eqPlaceS_w_0 M)
def c0_laws_eqPlaceS_w (M : FOps) (a0 : (List (Nat × Nat))) (a1 : (List (Nat × Nat))) : Option (Bool × Unit ⊕ Bool × Unit) := W_laws_eqPlaceS_w_0 M (a0, a1, 0, false, ())
def F_laws_eqPlaceS_w (r : Bool) : AS.Ty (.cons (.one .bool) .nil) × List CS := ((r, ()), [])
def p_laws_eqPlaceS_w (M : FOps) (a0 : (List (Nat × Nat))) (a1 : (List (Nat × Nat))) : Bool :=
  (bif (↑a0.length : Int) != (↑a1.length : Int) then false else (bif isL ((c0_laws_eqPlaceS_w M a0 a1).getD (Sum.inl (false, ()))) then (getL (false, ()) ((c0_laws_eqPlaceS_w M a0 a1).getD (Sum.inl (false, ())))).fst else true))
def r_laws_eqPlaceS_w (M : FOps) (a0 : (List (Nat × Nat))) (a1 : (List (Nat × Nat))) : Bool :=
  (bif (↑a0.length : Int) != (↑a1.length : Int) then true else (((c0_laws_eqPlaceS_w M a0 a1).isSome) && true))
def S_laws_eqPlaceS_w (M : FOps) : FSpec := mkSpec (.cons (.one (.ls (.pair (.fl .f32) (.fl .f32)))) (.cons (.one (.ls (.pair (.fl .f32) (.fl .f32)))) .nil)) (.cons (.one .bool) .nil) (fun x => r_laws_eqPlaceS_w M x.1 x.2.1) (fun x => F_laws_eqPlaceS_w (p_laws_eqPlaceS_w M x.1 x.2.1))

end
end Go.Dv
