/- Printed by gen2.py. -/
import Derived.Test.YtbgpobiaaebbeaaDoorQb
set_option linter.unusedVariables false
set_option linter.unusedSimpArgs false

-- GENERATED BELOW (gen.py)
namespace Go.Dv
open Go.Cv
noncomputable section
/-- impl.areFinite, loop 0: (.tv 5 true (.ls (.fl .f32))) (.tv 6 false (.int .i64)) (.tv 7 false (.int .i64)) (.tv 2 false .bool) -/
def st_impl_areFinite_w_0 (M : FOps) (v0 : (List Nat)) (v1 : Int) (v2 : Int) (v3 : Bool) : Option (((List Nat) × Int × Int × Bool × Unit) ⊕ ((Bool × Unit) ⊕ (Bool × Unit))) :=
  (brT (decide (v2 < v1)) (brT (decide (0 ≤ v2) && decide (v2 < (↑v0.length : Int))) (brT (!p_impl_IsFinite M (v0.getD v2.toNat 0)) (some (.inr (.inl (false, ())))) (some (.inl (v0, (v1, (IntKind.i64.wrap (v2 + 1), (v3, ()))))))) none) (some (.inr (.inr (v3, ())))))
def W_impl_areFinite_w_0 (M : FOps) : ((List Nat) × Int × Int × Bool × Unit) → Option ((Bool × Unit) ⊕ (Bool × Unit)) := runW (fun x => st_impl_areFinite_w_0 M x.1 x.2.1 x.2.2.1 x.2.2.2.1)
def L_impl_areFinite_w_0 (M : FOps) : LSpec := mkL (.cons (.tv 5 true (.ls (.fl .f32))) (.cons (.tv 6 false (.int .i64)) (.cons (.tv 7 false (.int .i64)) (.cons (.tv 2 false .bool) .nil)))) [(.ret, (.cons (.tv 2 false .bool) .nil)), ((.exit 0), (.cons (.tv 2 false .bool) .nil))] 0 0 (W_impl_areFinite_w_0 M)
def c0_impl_areFinite_w (M : FOps) (a0 : (List Nat)) : Option (Bool × Unit ⊕ Bool × Unit) := W_impl_areFinite_w_0 M (a0, (↑a0.length : Int), 0, false, ())
def F_impl_areFinite_w (r : Bool) : AS.Ty (.cons (.one .bool) .nil) × List CS := ((r, ()), [])
def p_impl_areFinite_w (M : FOps) (a0 : (List Nat)) : Bool :=
  (bif isL ((c0_impl_areFinite_w M a0).getD (Sum.inl (false, ()))) then (getL (false, ()) ((c0_impl_areFinite_w M a0).getD (Sum.inl (false, ())))).fst else true)
def r_impl_areFinite_w (M : FOps) (a0 : (List Nat)) : Bool :=
  (((c0_impl_areFinite_w M a0).isSome) && true)
def S_impl_areFinite_w (M : FOps) : FSpec := mkSpec (.cons (.one (.ls (.fl .f32))) .nil) (.cons (.one .bool) .nil) (fun x => r_impl_areFinite_w M x.1) (fun x => F_impl_areFinite_w (p_impl_areFinite_w M x.1))

end
end Go.Dv
