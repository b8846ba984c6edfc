/- Printed by gen2.py. -/
import Derived.Test.YtggaemodkekeeaaWna

set_option linter.unusedVariables false
set_option linter.unusedSimpArgs false

-- GENERATED BELOW (gen.py)
namespace Go.Dv
open Go.Cv
noncomputable section
def F_impl_ValidNet_1 (r : Bool) : AS.Ty (.cons (.one .bool) .nil) × List CS := ((r, ()), [])
def p_impl_ValidNet_1 (M : FOps) (a0_0 : Int) (a0_1 : Int) (a0_2 : Int) (a1_0 : Int) : Bool :=
  (bif p_impl_within M a0_0 0 a1_0 then (bif p_impl_within M a0_1 0 a1_0 then (bif a0_0 != a0_1 then p_impl_within M a0_2 1 1000000 else false) else false) else false)
def S_impl_ValidNet_1 (M : FOps) : FSpec := mkSpec (.cons (.agg (.pair (.int .i64) (.pair (.int .i64) (.int .i64)))) (.cons (.ptr (.int .i64)) .nil)) (.cons (.one .bool) .nil) (fun _ => true) (fun x => F_impl_ValidNet_1 (p_impl_ValidNet_1 M x.1.1 x.1.2.1 x.1.2.2 x.2.1))

def F_impl_areAll_impl_Road_1 (r : Bool) : AS.Ty (.cons (.one .bool) .nil) × List CS := ((r, ()), [])
def p_impl_areAll_impl_Road_1 (M : FOps) (a0_0 : Int) (a0_1 : Int) (a0_2 : Int) (a1 : Int) : Bool :=
  !p_impl_ValidNet_1 M a0_0 a0_1 a0_2 a1
def S_impl_areAll_impl_Road_1 (M : FOps) : FSpec := mkSpec (.cons (.agg (.pair (.int .i64) (.pair (.int .i64) (.int .i64)))) (.cons (.pq 55 (.cons (.ptr (.int .i64)) .nil)) .nil)) (.cons (.one .bool) .nil) (fun _ => true) (fun x => F_impl_areAll_impl_Road_1 (p_impl_areAll_impl_Road_1 M x.1.1 x.1.2.1 x.1.2.2 x.2.1.1))

/-- slices.IndexFunc[[]impl.Road,impl.Road], loop 0: (.tv 0 true (.ls (.pair (.int .i64) (.pair (.int .i64) (.int .i64))))) (.tg 1 73 [(.q 55 (.int .i64))]) (.tv 7 false (.int .i64)) (.tv 8 false (.int .i64)) (.tv 4 false (.int .i64)) -/
def st_slices_IndexFunc_impl_Road_impl_Road_k_0 (M : FOps) (v0 : (List (Int × (Int × Int)))) (v1 : Int) (v2 : Int) (v3 : Int) (v4 : Int) : Option (((List (Int × (Int × Int))) × (Int × Unit) × Int × Int × Int × Unit) ⊕ ((Int × Unit) ⊕ (Int × Unit))) :=
  (brT (decide (v3 < v2)) (brT (decide (0 ≤ v3) && decide (v3 < (↑v0.length : Int))) (brT (p_impl_areAll_impl_Road_1 M (v0.getD v3.toNat (0, 0, 0)).1 (v0.getD v3.toNat (0, 0, 0)).2.1 (v0.getD v3.toNat (0, 0, 0)).2.2 v1) (some (.inr (.inl (v3, ())))) (some (.inl (v0, ((v1, ()), (v2, (IntKind.i64.wrap (v3 + 1), (v4, ())))))))) none) (some (.inr (.inr (v4, ())))))
def W_slices_IndexFunc_impl_Road_impl_Road_k_0 (M : FOps) : ((List (Int × (Int × Int))) × (Int × Unit) × Int × Int × Int × Unit) → Option ((Int × Unit) ⊕ (Int × Unit)) := runW (fun x => st_slices_IndexFunc_impl_Road_impl_Road_k_0 M x.1 x.2.1.1 x.2.2.1 x.2.2.2.1 x.2.2.2.2.1)
def L_slices_IndexFunc_impl_Road_impl_Road_k_0 (M : FOps) : LSpec := mkL (.cons (.tv 0 true (.ls (.pair (.int .i64) (.pair (.int .i64) (.int .i64))))) (.cons (.tg 1 73 [(.q 55 (.int .i64))]) (.cons (.tv 7 false (.int .i64)) (.cons (.tv 8 false (.int .i64)) (.cons (.tv 4 false (.int .i64)) .nil))))) [(.ret, (.cons (.tv 4 false (.int .i64)) .nil)), ((.exit 0), (.cons (.tv 4 false (.int .i64)) .nil))] 0 0 (W_slices_IndexFunc_impl_Road_impl_Road_k_0 M)
def c0_slices_IndexFunc_impl_Road_impl_Road_k (M : FOps) (a0 : (List (Int × (Int × Int)))) (a1 : Int) : Option (Int × Unit ⊕ Int × Unit) := W_slices_IndexFunc_impl_Road_impl_Road_k_0 M (a0, (a1, ()), (↑a0.length : Int), 0, 0, ())
def F_slices_IndexFunc_impl_Road_impl_Road_k (r : Int) : AS.Ty (.cons (.one (.int .i64)) .nil) × List CS := ((r, ()), [])
def p_slices_IndexFunc_impl_Road_impl_Road_k (M : FOps) (a0 : (List (Int × (Int × Int)))) (a1 : Int) : Int :=
  (bif isL ((c0_slices_IndexFunc_impl_Road_impl_Road_k M a0 a1).getD (Sum.inl (0, ()))) then (getL (0, ()) ((c0_slices_IndexFunc_impl_Road_impl_Road_k M a0 a1).getD (Sum.inl (0, ())))).1 else Int.negSucc 0)
def r_slices_IndexFunc_impl_Road_impl_Road_k (M : FOps) (a0 : (List (Int × (Int × Int)))) (a1 : Int) : Bool :=
  (((c0_slices_IndexFunc_impl_Road_impl_Road_k M a0 a1).isSome) && true)
def S_slices_IndexFunc_impl_Road_impl_Road_k (M : FOps) : FSpec := mkSpec (.cons (.one (.ls (.pair (.int .i64) (.pair (.int .i64) (.int .i64))))) (.cons (.fn 73 (.cons (.pq 55 (.cons (.ptr (.int .i64)) .nil)) .nil)) .nil)) (.cons (.one (.int .i64)) .nil) (fun x => r_slices_IndexFunc_impl_Road_impl_Road_k M x.1 x.2.1.1.1) (fun x => F_slices_IndexFunc_impl_Road_impl_Road_k (p_slices_IndexFunc_impl_Road_impl_Road_k M x.1 x.2.1.1.1))

def c0_slices_ContainsFunc_impl_Road_impl_Road_k (M : FOps) (a0 : (List (Int × (Int × Int)))) (a1 : Int) : Int := p_slices_IndexFunc_impl_Road_impl_Road_k M a0 a1
def F_slices_ContainsFunc_impl_Road_impl_Road_k (r : Bool) : AS.Ty (.cons (.one .bool) .nil) × List CS := ((r, ()), [])
def p_slices_ContainsFunc_impl_Road_impl_Road_k (M : FOps) (a0 : (List (Int × (Int × Int)))) (a1 : Int) : Bool :=
  decide ((c0_slices_ContainsFunc_impl_Road_impl_Road_k M a0 a1) ≥ 0)
def r_slices_ContainsFunc_impl_Road_impl_Road_k (M : FOps) (a0 : (List (Int × (Int × Int)))) (a1 : Int) : Bool :=
  ((r_slices_IndexFunc_impl_Road_impl_Road_k M a0 a1) && true)
def S_slices_ContainsFunc_impl_Road_impl_Road_k (M : FOps) : FSpec := mkSpec (.cons (.one (.ls (.pair (.int .i64) (.pair (.int .i64) (.int .i64))))) (.cons (.fn 73 (.cons (.pq 55 (.cons (.ptr (.int .i64)) .nil)) .nil)) .nil)) (.cons (.one .bool) .nil) (fun x => r_slices_ContainsFunc_impl_Road_impl_Road_k M x.1 x.2.1.1.1) (fun x => F_slices_ContainsFunc_impl_Road_impl_Road_k (p_slices_ContainsFunc_impl_Road_impl_Road_k M x.1 x.2.1.1.1))

def F_impl_areAll_impl_Road (r : Bool) : AS.Ty (.cons (.one .bool) .nil) × List CS := ((r, ()), [])
def p_impl_areAll_impl_Road (M : FOps) (a0 : (List (Int × (Int × Int)))) (a1 : Int) : Bool :=
  !p_slices_ContainsFunc_impl_Road_impl_Road_k M a0 a1
def r_impl_areAll_impl_Road (M : FOps) (a0 : (List (Int × (Int × Int)))) (a1 : Int) : Bool :=
  ((r_slices_ContainsFunc_impl_Road_impl_Road_k M a0 a1) && true)
def S_impl_areAll_impl_Road (M : FOps) : FSpec := mkSpec (.cons (.one (.ls (.pair (.int .i64) (.pair (.int .i64) (.int .i64))))) (.cons (.fn 55 (.cons (.ptr (.int .i64)) .nil)) .nil)) (.cons (.one .bool) .nil) (fun x => r_impl_areAll_impl_Road M x.1 x.2.1.1) (fun x => F_impl_areAll_impl_Road (p_impl_areAll_impl_Road M x.1 x.2.1.1))

def F_impl_ValidNet (r : Bool) : AS.Ty (.cons (.one .bool) .nil) × List CS := ((r, ()), [])
def p_impl_ValidNet (M : FOps) (a0_0 : (List (Nat × Nat))) (a0_1 : (List (Int × (Int × Int)))) : Bool :=
  (bif (a0_0.all fun x => p_impl_ValidPlace M x.1 x.2) && (decide (1 ≤ a0_0.length) && decide (a0_0.length ≤ 64)) then (bif decide ((↑a0_1.length : Int) ≤ 64) then p_impl_areAll_impl_Road M a0_1 (IntKind.i64.wrap (p_impl_length_impl_Place M a0_0 - 1)) else false) else false)
def r_impl_ValidNet (M : FOps) (a0_0 : (List (Nat × Nat))) (a0_1 : (List (Int × (Int × Int)))) : Bool :=
  ((decide (a0_0.length < 4611686018427387904)) && (bif (a0_0.all fun x => p_impl_ValidPlace M x.1 x.2) && (decide (1 ≤ a0_0.length) && decide (a0_0.length ≤ 64)) then (bif decide ((↑a0_1.length : Int) ≤ 64) then ((r_impl_areAll_impl_Road M a0_1 (IntKind.i64.wrap (p_impl_length_impl_Place M a0_0 - 1))) && true) else true) else true))
def S_impl_ValidNet (M : FOps) : FSpec := mkSpec (.cons (.agg (.pair (.ls (.pair (.fl .f32) (.fl .f32))) (.ls (.pair (.int .i64) (.pair (.int .i64) (.int .i64)))))) .nil) (.cons (.one .bool) .nil) (fun x => r_impl_ValidNet M x.1.1 x.1.2) (fun x => F_impl_ValidNet (p_impl_ValidNet M x.1.1 x.1.2))

def c0_impl_missOf (M : FOps) (a0_0 : Nat) (a0_1 : Nat) (a1_0 : Nat) (a1_1 : Nat) : Nat := p_impl_floor M (M.bin BinOp.add FloatKind.f32 (M.bin BinOp.mul FloatKind.f32 (p_impl_apart M a0_0 a0_1 a1_0 a1_1) 1199570944) 1056964608)
def F_impl_missOf (r : Int) : AS.Ty (.cons (.one (.int .i64)) .nil) × List CS := ((r, ()), [])
def p_impl_missOf (M : FOps) (a0_0 : Nat) (a0_1 : Nat) (a1_0 : Nat) (a1_1 : Nat) : Int :=
  M.toi FloatKind.f32 (c0_impl_missOf M a0_0 a0_1 a1_0 a1_1) IntKind.i64
def r_impl_missOf (M : FOps) (a0_0 : Nat) (a0_1 : Nat) (a1_0 : Nat) (a1_1 : Nat) : Bool :=
  ((M.toiOk FloatKind.f32 (c0_impl_missOf M a0_0 a0_1 a1_0 a1_1) IntKind.i64) && true)
def S_impl_missOf (M : FOps) : FSpec := mkSpec (.cons (.agg (.pair (.fl .f32) (.fl .f32))) (.cons (.agg (.pair (.fl .f32) (.fl .f32))) .nil)) (.cons (.one (.int .i64)) .nil) (fun x => r_impl_missOf M x.1.1 x.1.2 x.2.1.1 x.2.1.2) (fun x => F_impl_missOf (p_impl_missOf M x.1.1 x.1.2 x.2.1.1 x.2.1.2))

def F_impl_MatchTrack_1 (r : Int) : AS.Ty (.cons (.one (.int .i64)) .nil) × List CS := ((r, ()), [])
def p_impl_MatchTrack_1 (M : FOps) (a0_0 : Int) (a0_1 : Int) (a0_2 : Int) : Int :=
  1
def S_impl_MatchTrack_1 (M : FOps) : FSpec := mkSpec (.cons (.agg (.pair (.int .i64) (.pair (.int .i64) (.int .i64)))) .nil) (.cons (.one (.int .i64)) .nil) (fun _ => true) (fun x => F_impl_MatchTrack_1 (p_impl_MatchTrack_1 M x.1.1 x.1.2.1 x.1.2.2))

/-- spec.l07Net, loop 0: (.ti 0 (.pair (.ls (.pair (.fl .f32) (.fl .f32))) (.ls (.pair (.int .i64) (.pair (.int .i64) (.int .i64)))))) (.tv 3 false (.int .i64)) (.tv 30 false (.int .i64)) (.tv 31 false (.int .i64)) (.tv 2 false .bool) -/
def st_spec_l07Net_0 (M : FOps) (v0 : (List (Nat × Nat))) (v1 : (List (Int × (Int × Int)))) (v2 : Int) (v3 : Int) (v4 : Int) (v5 : Bool) : Option ((((List (Nat × Nat)) × (List (Int × (Int × Int)))) × Int × Int × Int × Bool × Unit) ⊕ ((Bool × Unit) ⊕ (Bool × Unit))) :=
  (brT (decide (v4 < v3)) (brT (decide (0 ≤ v4) && decide (v4 < (↑v1.length : Int))) (brT (!p_spec_l00In M (v1.getD v4.toNat (0, 0, 0)).1 0 v2) (some (.inr (.inl (false, ())))) (brT (!p_spec_l00In M (v1.getD v4.toNat (0, 0, 0)).2.1 0 v2) (some (.inr (.inl (false, ())))) (brT ((v1.getD v4.toNat (0, 0, 0)).1 == (v1.getD v4.toNat (0, 0, 0)).2.1) (some (.inr (.inl (false, ())))) (brT (!p_spec_l00In M (v1.getD v4.toNat (0, 0, 0)).2.2 1 1000000) (some (.inr (.inl (false, ())))) (some (.inl ((v0, v1), (v2, (v3, (IntKind.i64.wrap (v4 + 1), (v5, ()))))))))))) none) (some (.inr (.inr (v5, ())))))
def W_spec_l07Net_0 (M : FOps) : (((List (Nat × Nat)) × (List (Int × (Int × Int)))) × Int × Int × Int × Bool × Unit) → Option ((Bool × Unit) ⊕ (Bool × Unit)) := runW (fun x => st_spec_l07Net_0 M x.1.1 x.1.2 x.2.1 x.2.2.1 x.2.2.2.1 x.2.2.2.2.1)
def L_spec_l07Net_0 (M : FOps) : LSpec := mkL (.cons (.ti 0 (.pair (.ls (.pair (.fl .f32) (.fl .f32))) (.ls (.pair (.int .i64) (.pair (.int .i64) (.int .i64)))))) (.cons (.tv 3 false (.int .i64)) (.cons (.tv 30 false (.int .i64)) (.cons (.tv 31 false (.int .i64)) (.cons (.tv 2 false .bool) .nil))))) [(.ret, (.cons (.tv 2 false .bool) .nil)), ((.exit 0), (.cons (.tv 2 false .bool) .nil))] 0 0 (W_spec_l07Net_0 M)
def c0_spec_l07Net (M : FOps) (a0_0 : (List (Nat × Nat))) (a0_1 : (List (Int × (Int × Int)))) : Option (Bool × Unit ⊕ Bool × Unit) := W_spec_l07Net_0 M ((a0_0, a0_1), IntKind.i64.wrap ((↑a0_0.length : Int) - 1), (↑a0_1.length : Int), 0, false, ())
def F_spec_l07Net (r : Bool) : AS.Ty (.cons (.one .bool) .nil) × List CS := ((r, ()), [])
def p_spec_l07Net (M : FOps) (a0_0 : (List (Nat × Nat))) (a0_1 : (List (Int × (Int × Int)))) : Bool :=
  (bif !((a0_0.all fun x => p_impl_ValidPlace M x.1 x.2) && (decide (1 ≤ a0_0.length) && decide (a0_0.length ≤ 64))) then false else (bif decide ((↑a0_1.length : Int) > 64) then false else (bif isL ((c0_spec_l07Net M a0_0 a0_1).getD (Sum.inl (false, ()))) then (getL (false, ()) ((c0_spec_l07Net M a0_0 a0_1).getD (Sum.inl (false, ())))).1 else true)))
def r_spec_l07Net (M : FOps) (a0_0 : (List (Nat × Nat))) (a0_1 : (List (Int × (Int × Int)))) : Bool :=
  ((decide (a0_0.length < 4611686018427387904)) && (bif !((a0_0.all fun x => p_impl_ValidPlace M x.1 x.2) && (decide (1 ≤ a0_0.length) && decide (a0_0.length ≤ 64))) then true else (bif decide ((↑a0_1.length : Int) > 64) then true else (((c0_spec_l07Net M a0_0 a0_1).isSome) && true))))
def S_spec_l07Net (M : FOps) : FSpec := mkSpec (.cons (.ptr (.pair (.ls (.pair (.fl .f32) (.fl .f32))) (.ls (.pair (.int .i64) (.pair (.int .i64) (.int .i64)))))) .nil) (.cons (.one .bool) .nil) (fun x => r_spec_l07Net M x.1.1 x.1.2) (fun x => F_spec_l07Net (p_spec_l07Net M x.1.1 x.1.2))

def c0_spec_l07Off (M : FOps) (a0_0 : Nat) (a0_1 : Nat) (a1_0 : Nat) (a1_1 : Nat) : Nat := p_math_Floor M (M.wid (M.bin BinOp.add FloatKind.f32 (M.bin BinOp.mul FloatKind.f32 (p_spec_l02Apart M a0_0 a0_1 a1_0 a1_1) 1199570944) 1056964608))
def F_spec_l07Off (r : Int) : AS.Ty (.cons (.one (.int .i64)) .nil) × List CS := ((r, ()), [])
def p_spec_l07Off (M : FOps) (a0_0 : Nat) (a0_1 : Nat) (a1_0 : Nat) (a1_1 : Nat) : Int :=
  M.toi FloatKind.f64 (c0_spec_l07Off M a0_0 a0_1 a1_0 a1_1) IntKind.i64
def r_spec_l07Off (M : FOps) (a0_0 : Nat) (a0_1 : Nat) (a1_0 : Nat) (a1_1 : Nat) : Bool :=
  ((M.toiOk FloatKind.f64 (c0_spec_l07Off M a0_0 a0_1 a1_0 a1_1) IntKind.i64) && true)
def S_spec_l07Off (M : FOps) : FSpec := mkSpec (.cons (.agg (.pair (.fl .f32) (.fl .f32))) (.cons (.agg (.pair (.fl .f32) (.fl .f32))) .nil)) (.cons (.one (.int .i64)) .nil) (fun x => r_spec_l07Off M x.1.1 x.1.2 x.2.1.1 x.2.1.2) (fun x => F_spec_l07Off (p_spec_l07Off M x.1.1 x.1.2 x.2.1.1 x.2.1.2))

end
end Go.Dv
