/- Printed by gen2.py. -/
import Derived.Test.YtggaemodkekeeaaQc

set_option linter.unusedVariables false
set_option linter.unusedSimpArgs false

-- GENERATED BELOW (gen.py)
namespace Go.Dv
open Go.Cv
noncomputable section
/-- impl.areFinite, loop 0: (.tv 5 true (.ls (.fl .f32))) (.tv 6 false (.int .i64)) (.tv 7 false (.int .i64)) (.tv 2 false .bool) -/
def st_impl_areFinite_w_0 (M : FOps) (v0 : (List Nat)) (v1 : Int) (v2 : Int) (v3 : Bool) : Option (((List Nat) × Int × Int × Bool × Unit) ⊕ ((Bool × Unit) ⊕ (Bool × Unit))) :=
  (brT (decide (v2 < v1)) (brT (decide (0 ≤ v2) && decide (v2 < (↑v0.length : Int))) (brT (!p_impl_IsFinite M (v0.getD v2.toNat 0)) (some (.inr (.inl (false, ())))) (some (.inl (v0, (v1, (IntKind.i64.wrap (v2 + 1), (v3, ()))))))) none) (some (.inr (.inr (v3, ())))))
def W_impl_areFinite_w_0 (M : FOps) : ((List Nat) × Int × Int × Bool × Unit) → Option ((Bool × Unit) ⊕ (Bool × Unit)) := runW (fun x => st_impl_areFinite_w_0 M x.1 x.2.1 x.2.2.1 x.2.2.2.1)
def L_impl_areFinite_w_0 (M : FOps) : LSpec := mkL (.cons (.tv 5 true (.ls (.fl .f32))) (.cons (.tv 6 false (.int .i64)) (.cons (.tv 7 false (.int .i64)) (.cons (.tv 2 false .bool) .nil)))) [(.ret, (.cons (.tv 2 false .bool) .nil)), ((.exit 0), (.cons (.tv 2 false .bool) .nil))] 0 0 (W_impl_areFinite_w_0 M)
def c0_impl_areFinite_w (M : FOps) (a0 : (List Nat)) : Option (Bool × Unit ⊕ Bool × Unit) := W_impl_areFinite_w_0 M (a0, (↑a0.length : Int), 0, false, ())
def F_impl_areFinite_w (r : Bool) : AS.Ty (.cons (.one .bool) .nil) × List CS := ((r, ()), [])
def p_impl_areFinite_w (M : FOps) (a0 : (List Nat)) : Bool :=
  (bif isL ((c0_impl_areFinite_w M a0).getD (Sum.inl (false, ()))) then (getL (false, ()) ((c0_impl_areFinite_w M a0).getD (Sum.inl (false, ())))).1 else true)
def r_impl_areFinite_w (M : FOps) (a0 : (List Nat)) : Bool :=
  (((c0_impl_areFinite_w M a0).isSome) && true)
def S_impl_areFinite_w (M : FOps) : FSpec := mkSpec (.cons (.one (.ls (.fl .f32))) .nil) (.cons (.one .bool) .nil) (fun x => r_impl_areFinite_w M x.1) (fun x => F_impl_areFinite_w (p_impl_areFinite_w M x.1))

def F_impl_areValid_1 (r : Bool) : AS.Ty (.cons (.one .bool) .nil) × List CS := ((r, ()), [])
def p_impl_areValid_1 (M : FOps) (a0_0 : Nat) (a0_1 : Nat) : Bool :=
  !p_impl_ValidPlace M a0_0 a0_1
def S_impl_areValid_1 (M : FOps) : FSpec := mkSpec (.cons (.agg (.pair (.fl .f32) (.fl .f32))) .nil) (.cons (.one .bool) .nil) (fun _ => true) (fun x => F_impl_areValid_1 (p_impl_areValid_1 M x.1.1 x.1.2))

/-- slices.IndexFunc[[]impl.Place,impl.Place], loop 0: (.tv 0 true (.ls (.pair (.fl .f32) (.fl .f32)))) (.tf 1 75) (.tv 7 false (.int .i64)) (.tv 8 false (.int .i64)) (.tv 4 false (.int .i64)) -/
def st_slices_IndexFunc_impl_Place_impl_Place_0 (M : FOps) (v0 : (List (Nat × Nat))) (v1 : Int) (v2 : Int) (v3 : Int) : Option (((List (Nat × Nat)) × Unit × Int × Int × Int × Unit) ⊕ ((Int × Unit) ⊕ (Int × Unit))) :=
  (brT (decide (v2 < v1)) (brT (decide (0 ≤ v2) && decide (v2 < (↑v0.length : Int))) (brT (p_impl_areValid_1 M (v0.getD v2.toNat (0, 0)).1 (v0.getD v2.toNat (0, 0)).2) (some (.inr (.inl (v2, ())))) (some (.inl (v0, ((), (v1, (IntKind.i64.wrap (v2 + 1), (v3, ())))))))) none) (some (.inr (.inr (v3, ())))))
def W_slices_IndexFunc_impl_Place_impl_Place_0 (M : FOps) : ((List (Nat × Nat)) × Unit × Int × Int × Int × Unit) → Option ((Int × Unit) ⊕ (Int × Unit)) := runW (fun x => st_slices_IndexFunc_impl_Place_impl_Place_0 M x.1 x.2.2.1 x.2.2.2.1 x.2.2.2.2.1)
def L_slices_IndexFunc_impl_Place_impl_Place_0 (M : FOps) : LSpec := mkL (.cons (.tv 0 true (.ls (.pair (.fl .f32) (.fl .f32)))) (.cons (.tf 1 75) (.cons (.tv 7 false (.int .i64)) (.cons (.tv 8 false (.int .i64)) (.cons (.tv 4 false (.int .i64)) .nil))))) [(.ret, (.cons (.tv 4 false (.int .i64)) .nil)), ((.exit 0), (.cons (.tv 4 false (.int .i64)) .nil))] 0 0 (W_slices_IndexFunc_impl_Place_impl_Place_0 M)
def c0_slices_IndexFunc_impl_Place_impl_Place (M : FOps) (a0 : (List (Nat × Nat))) : Option (Int × Unit ⊕ Int × Unit) := W_slices_IndexFunc_impl_Place_impl_Place_0 M (a0, (), (↑a0.length : Int), 0, 0, ())
def F_slices_IndexFunc_impl_Place_impl_Place (r : Int) : AS.Ty (.cons (.one (.int .i64)) .nil) × List CS := ((r, ()), [])
def p_slices_IndexFunc_impl_Place_impl_Place (M : FOps) (a0 : (List (Nat × Nat))) : Int :=
  (bif isL ((c0_slices_IndexFunc_impl_Place_impl_Place M a0).getD (Sum.inl (0, ()))) then (getL (0, ()) ((c0_slices_IndexFunc_impl_Place_impl_Place M a0).getD (Sum.inl (0, ())))).1 else Int.negSucc 0)
def r_slices_IndexFunc_impl_Place_impl_Place (M : FOps) (a0 : (List (Nat × Nat))) : Bool :=
  (((c0_slices_IndexFunc_impl_Place_impl_Place M a0).isSome) && true)
def S_slices_IndexFunc_impl_Place_impl_Place (M : FOps) : FSpec := mkSpec (.cons (.one (.ls (.pair (.fl .f32) (.fl .f32)))) (.cons (.fn 75 .nil) .nil)) (.cons (.one (.int .i64)) .nil) (fun x => r_slices_IndexFunc_impl_Place_impl_Place M x.1) (fun x => F_slices_IndexFunc_impl_Place_impl_Place (p_slices_IndexFunc_impl_Place_impl_Place M x.1))

def c0_slices_ContainsFunc_impl_Place_impl_Place (M : FOps) (a0 : (List (Nat × Nat))) : Int := p_slices_IndexFunc_impl_Place_impl_Place M a0
def F_slices_ContainsFunc_impl_Place_impl_Place (r : Bool) : AS.Ty (.cons (.one .bool) .nil) × List CS := ((r, ()), [])
def p_slices_ContainsFunc_impl_Place_impl_Place (M : FOps) (a0 : (List (Nat × Nat))) : Bool :=
  decide ((c0_slices_ContainsFunc_impl_Place_impl_Place M a0) ≥ 0)
def r_slices_ContainsFunc_impl_Place_impl_Place (M : FOps) (a0 : (List (Nat × Nat))) : Bool :=
  ((r_slices_IndexFunc_impl_Place_impl_Place M a0) && true)
def S_slices_ContainsFunc_impl_Place_impl_Place (M : FOps) : FSpec := mkSpec (.cons (.one (.ls (.pair (.fl .f32) (.fl .f32)))) (.cons (.fn 75 .nil) .nil)) (.cons (.one .bool) .nil) (fun x => r_slices_ContainsFunc_impl_Place_impl_Place M x.1) (fun x => F_slices_ContainsFunc_impl_Place_impl_Place (p_slices_ContainsFunc_impl_Place_impl_Place M x.1))

def F_impl_areValid_w (r : Bool) : AS.Ty (.cons (.one .bool) .nil) × List CS := ((r, ()), [])
def p_impl_areValid_w (M : FOps) (a0 : (List (Nat × Nat))) : Bool :=
  !p_slices_ContainsFunc_impl_Place_impl_Place M a0
def r_impl_areValid_w (M : FOps) (a0 : (List (Nat × Nat))) : Bool :=
  ((r_slices_ContainsFunc_impl_Place_impl_Place M a0) && true)
def S_impl_areValid_w (M : FOps) : FSpec := mkSpec (.cons (.one (.ls (.pair (.fl .f32) (.fl .f32)))) .nil) (.cons (.one .bool) .nil) (fun x => r_impl_areValid_w M x.1) (fun x => F_impl_areValid_w (p_impl_areValid_w M x.1))

def F_impl_length_impl_Place (r : Int) : AS.Ty (.cons (.one (.int .i64)) .nil) × List CS := ((r, ()), [])
def p_impl_length_impl_Place (M : FOps) (a0 : (List (Nat × Nat))) : Int :=
  (↑a0.length : Int)
def S_impl_length_impl_Place (M : FOps) : FSpec := mkSpec (.cons (.one (.ls (.pair (.fl .f32) (.fl .f32)))) .nil) (.cons (.one (.int .i64)) .nil) (fun _ => true) (fun x => F_impl_length_impl_Place (p_impl_length_impl_Place M x.1))

/-- spec.l02Are, loop 0: (.tv 0 true (.ls (.pair (.fl .f32) (.fl .f32)))) (.tv 3 false (.int .i64)) (.tv 2 false .bool) -/
def st_spec_l02Are_w_0 (M : FOps) (v0 : (List (Nat × Nat))) (v1 : Int) (v2 : Bool) : Option (((List (Nat × Nat)) × Int × Bool × Unit) ⊕ ((Bool × Unit) ⊕ ((List (Nat × Nat)) × Bool × Unit))) :=
  (brT (decide (v1 < (↑v0.length : Int))) (brT (decide (0 ≤ v1) && decide (v1 < (↑v0.length : Int))) (brT (!p_spec_l02Is M (v0.getD v1.toNat (0, 0)).1 (v0.getD v1.toNat (0, 0)).2) (some (.inr (.inl (false, ())))) (some (.inl (v0, (IntKind.i64.wrap (v1 + 1), (v2, ())))))) none) (some (.inr (.inr (v0, (v2, ()))))))
def W_spec_l02Are_w_0 (M : FOps) : ((List (Nat × Nat)) × Int × Bool × Unit) → Option ((Bool × Unit) ⊕ ((List (Nat × Nat)) × Bool × Unit)) := runW (fun x => st_spec_l02Are_w_0 M x.1 x.2.1 x.2.2.1)
def L_spec_l02Are_w_0 (M : FOps) : LSpec := mkL (.cons (.tv 0 true (.ls (.pair (.fl .f32) (.fl .f32)))) (.cons (.tv 3 false (.int .i64)) (.cons (.tv 2 false .bool) .nil))) [(.ret, (.cons (.tv 2 false .bool) .nil)), ((.exit 0), (.cons (.tv 0 true (.ls (.pair (.fl .f32) (.fl .f32)))) (.cons (.tv 2 false .bool) .nil)))] 0 0 (W_spec_l02Are_w_0 M)
def c0_spec_l02Are_w (M : FOps) (a0 : (List (Nat × Nat))) : Option (Bool × Unit ⊕ List (Nat × Nat) × Bool × Unit) := W_spec_l02Are_w_0 M (a0, 0, false, ())
def F_spec_l02Are_w (r : Bool) : AS.Ty (.cons (.one .bool) .nil) × List CS := ((r, ()), [])
def p_spec_l02Are_w (M : FOps) (a0 : (List (Nat × Nat))) : Bool :=
  (bif isL ((c0_spec_l02Are_w M a0).getD (Sum.inl (false, ()))) then (getL (false, ()) ((c0_spec_l02Are_w M a0).getD (Sum.inl (false, ())))).1 else (bif decide ((↑(List.length (getR ([], false, ()) ((c0_spec_l02Are_w M a0).getD (Sum.inl (false, ())))).1) : Int) ≥ 1) then decide ((↑(List.length (getR ([], false, ()) ((c0_spec_l02Are_w M a0).getD (Sum.inl (false, ())))).1) : Int) ≤ 64) else false))
def r_spec_l02Are_w (M : FOps) (a0 : (List (Nat × Nat))) : Bool :=
  (((c0_spec_l02Are_w M a0).isSome) && true)
def S_spec_l02Are_w (M : FOps) : FSpec := mkSpec (.cons (.one (.ls (.pair (.fl .f32) (.fl .f32)))) .nil) (.cons (.one .bool) .nil) (fun x => r_spec_l02Are_w M x.1) (fun x => F_spec_l02Are_w (p_spec_l02Are_w M x.1))

end
end Go.Dv
