/- Printed by gen2.py. -/
import Derived.Test.YthploccngbfmpaaGreatQd
import Derived.Test.YthploccngbfmpaaGreatWa
import Derived.Test.YthploccngbfmpaaGreatWe
set_option linter.unusedVariables false
set_option linter.unusedSimpArgs false

-- GENERATED BELOW (gen.py)
namespace Go.Dv
open Go.Cv
noncomputable section
/-- spec.AreaOfPlaces, loop 0: (.tv 0 true (.ls (.pair (.fl .f32) (.fl .f32)))) (.tv 4 false (.fl .f32)) (.tv 5 false (.int .i64)) (.tv 2 false (.fl .f32)) (.tv 3 false .bool) -/
def st_spec_AreaOfPlaces_0 (M : FOps) (v0 : (List (Nat × Nat))) (v1 : Nat) (v2 : Int) (v3 : Nat) (v4 : Bool) : Option (((List (Nat × Nat)) × Nat × Int × Nat × Bool × Unit) ⊕ (Nat × Nat × Bool × Unit)) :=
  (brT (decide (IntKind.i64.wrap (v2 + 1) < (↑v0.length : Int))) (brT (decide (0 < (↑v0.length : Int))) (brT (decide (0 ≤ v2) && decide (v2 < (↑v0.length : Int))) (brT (decide (0 ≤ IntKind.i64.wrap (v2 + 1)) && decide (IntKind.i64.wrap (v2 + 1) < (↑v0.length : Int))) (some (.inl (v0, (M.bin BinOp.add FloatKind.f32 v1 (p_spec_l02Triangle M (v0.getD 0 (0, 0)).fst (v0.getD 0 (0, 0)).snd (v0.getD v2.toNat (0, 0)).fst (v0.getD v2.toNat (0, 0)).snd (v0.getD (IntKind.i64.wrap (v2 + 1)).toNat (0, 0)).fst (v0.getD (IntKind.i64.wrap (v2 + 1)).toNat (0, 0)).snd), (IntKind.i64.wrap (v2 + 1), (v3, (v4, ()))))))) none) none) none) (some (.inr (v1, (v3, (v4, ()))))))
def W_spec_AreaOfPlaces_0 (M : FOps) : ((List (Nat × Nat)) × Nat × Int × Nat × Bool × Unit) → Option (Nat × Nat × Bool × Unit) := runW (fun x => st_spec_AreaOfPlaces_0 M x.1 x.2.1 x.2.2.1 x.2.2.2.1 x.2.2.2.2.1)
def L_spec_AreaOfPlaces_0 (M : FOps) : LSpec := mkL (.cons (.tv 0 true (.ls (.pair (.fl .f32) (.fl .f32)))) (.cons (.tv 4 false (.fl .f32)) (.cons (.tv 5 false (.int .i64)) (.cons (.tv 2 false (.fl .f32)) (.cons (.tv 3 false .bool) .nil))))) [((.exit 0), (.cons (.tv 4 false (.fl .f32)) (.cons (.tv 2 false (.fl .f32)) (.cons (.tv 3 false .bool) .nil))))] 0 0 (W_spec_AreaOfPlaces_0 M)
def c0_spec_AreaOfPlaces (M : FOps) (a0 : (List (Nat × Nat))) : Option (Nat × Nat × Bool × Unit) := W_spec_AreaOfPlaces_0 M (a0, 0, 1, 0, false, ())
def c1_spec_AreaOfPlaces (M : FOps) (a0 : (List (Nat × Nat))) : Nat × Bool := p_spec_l02Number M ((c0_spec_AreaOfPlaces M a0).getD (0, 0, false, ())).fst
def F_spec_AreaOfPlaces (r : Nat × Bool) : AS.Ty (.cons (.one (.fl .f32)) (.cons (.one .bool) .nil)) × List CS := ((r.1, (r.2, ())), [])
def p_spec_AreaOfPlaces (M : FOps) (a0 : (List (Nat × Nat))) : Nat × Bool :=
  (bif !((a0.all fun x => p_impl_ValidPlace M x.fst x.snd) && (decide (1 ≤ a0.length) && decide (a0.length ≤ 64))) then (0, false) else ((c1_spec_AreaOfPlaces M a0).fst, (c1_spec_AreaOfPlaces M a0).snd))
def r_spec_AreaOfPlaces (M : FOps) (a0 : (List (Nat × Nat))) : Bool :=
  ((decide (a0.length < 4611686018427387904)) && (bif !((a0.all fun x => p_impl_ValidPlace M x.fst x.snd) && (decide (1 ≤ a0.length) && decide (a0.length ≤ 64))) then true else (((c0_spec_AreaOfPlaces M a0).isSome) && true)))
def S_spec_AreaOfPlaces (M : FOps) : FSpec := mkSpec (.cons (.one (.ls (.pair (.fl .f32) (.fl .f32)))) .nil) (.cons (.one (.fl .f32)) (.cons (.one .bool) .nil)) (fun x => r_spec_AreaOfPlaces M x.1) (fun x => F_spec_AreaOfPlaces (p_spec_AreaOfPlaces M x.1))


/-- impl.AreaOfPlaces, loop 0: (.tv 0 true (.ls (.pair (.fl .f32) (.fl .f32)))) (.tv 4 false (.fl .f32)) (.tv 5 false (.int .i64)) (.tv 2 false (.fl .f32)) (.tv 3 false .bool) -/
def st_impl_AreaOfPlaces_0 (M : FOps) (v0 : (List (Nat × Nat))) (v1 : Nat) (v2 : Int) (v3 : Nat) (v4 : Bool) : Option (((List (Nat × Nat)) × Nat × Int × Nat × Bool × Unit) ⊕ (Nat × Nat × Bool × Unit)) :=
  (brT (decide (IntKind.i64.wrap (v2 + 1) < (↑v0.length : Int))) (brT (decide (0 < (↑v0.length : Int))) (brT (decide (0 ≤ v2) && decide (v2 < (↑v0.length : Int))) (brT (decide (0 ≤ IntKind.i64.wrap (v2 + 1)) && decide (IntKind.i64.wrap (v2 + 1) < (↑v0.length : Int))) (some (.inl (v0, (M.bin BinOp.add FloatKind.f32 v1 (p_impl_triangle M (v0.getD 0 (0, 0)).fst (v0.getD 0 (0, 0)).snd (v0.getD v2.toNat (0, 0)).fst (v0.getD v2.toNat (0, 0)).snd (v0.getD (IntKind.i64.wrap (v2 + 1)).toNat (0, 0)).fst (v0.getD (IntKind.i64.wrap (v2 + 1)).toNat (0, 0)).snd), (IntKind.i64.wrap (v2 + 1), (v3, (v4, ()))))))) none) none) none) (some (.inr (v1, (v3, (v4, ()))))))
def W_impl_AreaOfPlaces_0 (M : FOps) : ((List (Nat × Nat)) × Nat × Int × Nat × Bool × Unit) → Option (Nat × Nat × Bool × Unit) := runW (fun x => st_impl_AreaOfPlaces_0 M x.1 x.2.1 x.2.2.1 x.2.2.2.1 x.2.2.2.2.1)
def L_impl_AreaOfPlaces_0 (M : FOps) : LSpec := mkL (.cons (.tv 0 true (.ls (.pair (.fl .f32) (.fl .f32)))) (.cons (.tv 4 false (.fl .f32)) (.cons (.tv 5 false (.int .i64)) (.cons (.tv 2 false (.fl .f32)) (.cons (.tv 3 false .bool) .nil))))) [((.exit 0), (.cons (.tv 4 false (.fl .f32)) (.cons (.tv 2 false (.fl .f32)) (.cons (.tv 3 false .bool) .nil))))] 0 0 (W_impl_AreaOfPlaces_0 M)
def c0_impl_AreaOfPlaces (M : FOps) (a0 : (List (Nat × Nat))) : Option (Nat × Nat × Bool × Unit) := W_impl_AreaOfPlaces_0 M (a0, 0, 1, 0, false, ())
def c1_impl_AreaOfPlaces (M : FOps) (a0 : (List (Nat × Nat))) : Nat × Bool := p_impl_finite M ((c0_impl_AreaOfPlaces M a0).getD (0, 0, false, ())).fst true
def F_impl_AreaOfPlaces (r : Nat × Bool) : AS.Ty (.cons (.one (.fl .f32)) (.cons (.one .bool) .nil)) × List CS := ((r.1, (r.2, ())), [])
def p_impl_AreaOfPlaces (M : FOps) (a0 : (List (Nat × Nat))) : Nat × Bool :=
  (bif !((a0.all fun x => p_impl_ValidPlace M x.fst x.snd) && (decide (1 ≤ a0.length) && decide (a0.length ≤ 64))) then (0, false) else ((c1_impl_AreaOfPlaces M a0).fst, (c1_impl_AreaOfPlaces M a0).snd))
def r_impl_AreaOfPlaces (M : FOps) (a0 : (List (Nat × Nat))) : Bool :=
  ((decide (a0.length < 4611686018427387904)) && (bif !((a0.all fun x => p_impl_ValidPlace M x.fst x.snd) && (decide (1 ≤ a0.length) && decide (a0.length ≤ 64))) then true else (((c0_impl_AreaOfPlaces M a0).isSome) && true)))
def S_impl_AreaOfPlaces (M : FOps) : FSpec := mkSpec (.cons (.one (.ls (.pair (.fl .f32) (.fl .f32)))) .nil) (.cons (.one (.fl .f32)) (.cons (.one .bool) .nil)) (fun x => r_impl_AreaOfPlaces M x.1) (fun x => F_impl_AreaOfPlaces (p_impl_AreaOfPlaces M x.1))


/-- spec.LongOfPlaces, loop 0: (.tv 0 true (.ls (.pair (.fl .f32) (.fl .f32)))) (.tv 6 false (.fl .f32)) (.tv 7 false (.int .i64)) (.tv 1 false .bool) (.tv 4 false (.fl .f32)) (.tv 5 false .bool) -/
def st_spec_LongOfPlaces_0 (M : FOps) (v0 : (List (Nat × Nat))) (v1 : Nat) (v2 : Int) (v3 : Bool) (v4 : Nat) (v5 : Bool) : Option (((List (Nat × Nat)) × Nat × Int × Bool × Nat × Bool × Unit) ⊕ ((List (Nat × Nat)) × Bool × Nat × Nat × Bool × Unit)) :=
  (brT (decide (v2 < (↑v0.length : Int))) (brT (decide (0 ≤ IntKind.i64.wrap (v2 - 1)) && decide (IntKind.i64.wrap (v2 - 1) < (↑v0.length : Int))) (brT (decide (0 ≤ v2) && decide (v2 < (↑v0.length : Int))) (some (.inl (v0, (M.bin BinOp.add FloatKind.f32 v1 (p_spec_l02Apart M (v0.getD (IntKind.i64.wrap (v2 - 1)).toNat (0, 0)).fst (v0.getD (IntKind.i64.wrap (v2 - 1)).toNat (0, 0)).snd (v0.getD v2.toNat (0, 0)).fst (v0.getD v2.toNat (0, 0)).snd), (IntKind.i64.wrap (v2 + 1), (v3, (v4, (v5, ())))))))) none) none) (some (.inr (v0, (v3, (v1, (v4, (v5, ()))))))))
def W_spec_LongOfPlaces_0 (M : FOps) : ((List (Nat × Nat)) × Nat × Int × Bool × Nat × Bool × Unit) → Option ((List (Nat × Nat)) × Bool × Nat × Nat × Bool × Unit) := runW (fun x => st_spec_LongOfPlaces_0 M x.1 x.2.1 x.2.2.1 x.2.2.2.1 x.2.2.2.2.1 x.2.2.2.2.2.1)
def L_spec_LongOfPlaces_0 (M : FOps) : LSpec := mkL (.cons (.tv 0 true (.ls (.pair (.fl .f32) (.fl .f32)))) (.cons (.tv 6 false (.fl .f32)) (.cons (.tv 7 false (.int .i64)) (.cons (.tv 1 false .bool) (.cons (.tv 4 false (.fl .f32)) (.cons (.tv 5 false .bool) .nil)))))) [((.exit 0), (.cons (.tv 0 true (.ls (.pair (.fl .f32) (.fl .f32)))) (.cons (.tv 1 false .bool) (.cons (.tv 6 false (.fl .f32)) (.cons (.tv 4 false (.fl .f32)) (.cons (.tv 5 false .bool) .nil))))))] 0 0 (W_spec_LongOfPlaces_0 M)
def c0_spec_LongOfPlaces (M : FOps) (a0 : (List (Nat × Nat))) (a1 : Bool) : Option (List (Nat × Nat) × Bool × Nat × Nat × Bool × Unit) := W_spec_LongOfPlaces_0 M (a0, 0, 1, a1, 0, false, ())
def c1_spec_LongOfPlaces (M : FOps) (a0 : (List (Nat × Nat))) (a1 : Bool) : Nat × Bool := p_spec_l02Number M (M.bin BinOp.add FloatKind.f32 ((c0_spec_LongOfPlaces M a0 a1).getD ([], false, 0, 0, false, ())).snd.snd.fst (p_spec_l02Apart M (List.getD ((c0_spec_LongOfPlaces M a0 a1).getD ([], false, 0, 0, false, ())).fst (IntKind.i64.wrap ((↑(List.length ((c0_spec_LongOfPlaces M a0 a1).getD ([], false, 0, 0, false, ())).fst) : Int) - 1)).toNat (0, 0)).fst (List.getD ((c0_spec_LongOfPlaces M a0 a1).getD ([], false, 0, 0, false, ())).fst (IntKind.i64.wrap ((↑(List.length ((c0_spec_LongOfPlaces M a0 a1).getD ([], false, 0, 0, false, ())).fst) : Int) - 1)).toNat (0, 0)).snd (List.getD ((c0_spec_LongOfPlaces M a0 a1).getD ([], false, 0, 0, false, ())).fst 0 (0, 0)).fst (List.getD ((c0_spec_LongOfPlaces M a0 a1).getD ([], false, 0, 0, false, ())).fst 0 (0, 0)).snd))
def c2_spec_LongOfPlaces (M : FOps) (a0 : (List (Nat × Nat))) (a1 : Bool) : Nat × Bool := p_spec_l02Number M ((c0_spec_LongOfPlaces M a0 a1).getD ([], false, 0, 0, false, ())).snd.snd.fst
def F_spec_LongOfPlaces (r : Nat × Bool) : AS.Ty (.cons (.one (.fl .f32)) (.cons (.one .bool) .nil)) × List CS := ((r.1, (r.2, ())), [])
def p_spec_LongOfPlaces (M : FOps) (a0 : (List (Nat × Nat))) (a1 : Bool) : Nat × Bool :=
  (bif !((a0.all fun x => p_impl_ValidPlace M x.fst x.snd) && (decide (1 ≤ a0.length) && decide (a0.length ≤ 64))) then (0, false) else (bif ((c0_spec_LongOfPlaces M a0 a1).getD ([], false, 0, 0, false, ())).snd.fst then ((c1_spec_LongOfPlaces M a0 a1).fst, (c1_spec_LongOfPlaces M a0 a1).snd) else ((c2_spec_LongOfPlaces M a0 a1).fst, (c2_spec_LongOfPlaces M a0 a1).snd)))
def r_spec_LongOfPlaces (M : FOps) (a0 : (List (Nat × Nat))) (a1 : Bool) : Bool :=
  ((decide (a0.length < 4611686018427387904)) && (bif !((a0.all fun x => p_impl_ValidPlace M x.fst x.snd) && (decide (1 ≤ a0.length) && decide (a0.length ≤ 64))) then true else (((c0_spec_LongOfPlaces M a0 a1).isSome) && (bif ((c0_spec_LongOfPlaces M a0 a1).getD ([], false, 0, 0, false, ())).snd.fst then ((decide (0 ≤ IntKind.i64.wrap ((↑(List.length ((c0_spec_LongOfPlaces M a0 a1).getD ([], false, 0, 0, false, ())).fst) : Int) - 1)) && decide (IntKind.i64.wrap ((↑(List.length ((c0_spec_LongOfPlaces M a0 a1).getD ([], false, 0, 0, false, ())).fst) : Int) - 1) < (↑(List.length ((c0_spec_LongOfPlaces M a0 a1).getD ([], false, 0, 0, false, ())).fst) : Int))) && ((decide (0 < (↑(List.length ((c0_spec_LongOfPlaces M a0 a1).getD ([], false, 0, 0, false, ())).fst) : Int))) && true)) else true))))
def S_spec_LongOfPlaces (M : FOps) : FSpec := mkSpec (.cons (.one (.ls (.pair (.fl .f32) (.fl .f32)))) (.cons (.one .bool) .nil)) (.cons (.one (.fl .f32)) (.cons (.one .bool) .nil)) (fun x => r_spec_LongOfPlaces M x.1 x.2.1) (fun x => F_spec_LongOfPlaces (p_spec_LongOfPlaces M x.1 x.2.1))


/-- impl.LongOfPlaces, loop 0: (.tv 0 true (.ls (.pair (.fl .f32) (.fl .f32)))) (.tv 6 false (.fl .f32)) (.tv 7 false (.int .i64)) (.tv 1 false .bool) (.tv 4 false (.fl .f32)) (.tv 5 false .bool) -/
def st_impl_LongOfPlaces_0 (M : FOps) (v0 : (List (Nat × Nat))) (v1 : Nat) (v2 : Int) (v3 : Bool) (v4 : Nat) (v5 : Bool) : Option (((List (Nat × Nat)) × Nat × Int × Bool × Nat × Bool × Unit) ⊕ ((List (Nat × Nat)) × Bool × Nat × Nat × Bool × Unit)) :=
  (brT (decide (v2 < (↑v0.length : Int))) (brT (decide (0 ≤ IntKind.i64.wrap (v2 - 1)) && decide (IntKind.i64.wrap (v2 - 1) < (↑v0.length : Int))) (brT (decide (0 ≤ v2) && decide (v2 < (↑v0.length : Int))) (some (.inl (v0, (M.bin BinOp.add FloatKind.f32 v1 (p_impl_apart M (v0.getD (IntKind.i64.wrap (v2 - 1)).toNat (0, 0)).fst (v0.getD (IntKind.i64.wrap (v2 - 1)).toNat (0, 0)).snd (v0.getD v2.toNat (0, 0)).fst (v0.getD v2.toNat (0, 0)).snd), (IntKind.i64.wrap (v2 + 1), (v3, (v4, (v5, ())))))))) none) none) (some (.inr (v0, (v3, (v1, (v4, (v5, ()))))))))
def W_impl_LongOfPlaces_0 (M : FOps) : ((List (Nat × Nat)) × Nat × Int × Bool × Nat × Bool × Unit) → Option ((List (Nat × Nat)) × Bool × Nat × Nat × Bool × Unit) := runW (fun x => st_impl_LongOfPlaces_0 M x.1 x.2.1 x.2.2.1 x.2.2.2.1 x.2.2.2.2.1 x.2.2.2.2.2.1)
def L_impl_LongOfPlaces_0 (M : FOps) : LSpec := mkL (.cons (.tv 0 true (.ls (.pair (.fl .f32) (.fl .f32)))) (.cons (.tv 6 false (.fl .f32)) (.cons (.tv 7 false (.int .i64)) (.cons (.tv 1 false .bool) (.cons (.tv 4 false (.fl .f32)) (.cons (.tv 5 false .bool) .nil)))))) [((.exit 0), (.cons (.tv 0 true (.ls (.pair (.fl .f32) (.fl .f32)))) (.cons (.tv 1 false .bool) (.cons (.tv 6 false (.fl .f32)) (.cons (.tv 4 false (.fl .f32)) (.cons (.tv 5 false .bool) .nil))))))] 0 0 (W_impl_LongOfPlaces_0 M)
def c0_impl_LongOfPlaces (M : FOps) (a0 : (List (Nat × Nat))) (a1 : Bool) : Option (List (Nat × Nat) × Bool × Nat × Nat × Bool × Unit) := W_impl_LongOfPlaces_0 M (a0, 0, 1, a1, 0, false, ())
def c1_impl_LongOfPlaces (M : FOps) (a0 : (List (Nat × Nat))) (a1 : Bool) : Nat × Bool := p_impl_finite M (M.bin BinOp.add FloatKind.f32 ((c0_impl_LongOfPlaces M a0 a1).getD ([], false, 0, 0, false, ())).snd.snd.fst (p_impl_apart M (List.getD ((c0_impl_LongOfPlaces M a0 a1).getD ([], false, 0, 0, false, ())).fst (IntKind.i64.wrap ((↑(List.length ((c0_impl_LongOfPlaces M a0 a1).getD ([], false, 0, 0, false, ())).fst) : Int) - 1)).toNat (0, 0)).fst (List.getD ((c0_impl_LongOfPlaces M a0 a1).getD ([], false, 0, 0, false, ())).fst (IntKind.i64.wrap ((↑(List.length ((c0_impl_LongOfPlaces M a0 a1).getD ([], false, 0, 0, false, ())).fst) : Int) - 1)).toNat (0, 0)).snd (List.getD ((c0_impl_LongOfPlaces M a0 a1).getD ([], false, 0, 0, false, ())).fst 0 (0, 0)).fst (List.getD ((c0_impl_LongOfPlaces M a0 a1).getD ([], false, 0, 0, false, ())).fst 0 (0, 0)).snd)) true
def c2_impl_LongOfPlaces (M : FOps) (a0 : (List (Nat × Nat))) (a1 : Bool) : Nat × Bool := p_impl_finite M ((c0_impl_LongOfPlaces M a0 a1).getD ([], false, 0, 0, false, ())).snd.snd.fst true
def F_impl_LongOfPlaces (r : Nat × Bool) : AS.Ty (.cons (.one (.fl .f32)) (.cons (.one .bool) .nil)) × List CS := ((r.1, (r.2, ())), [])
def p_impl_LongOfPlaces (M : FOps) (a0 : (List (Nat × Nat))) (a1 : Bool) : Nat × Bool :=
  (bif !((a0.all fun x => p_impl_ValidPlace M x.fst x.snd) && (decide (1 ≤ a0.length) && decide (a0.length ≤ 64))) then (0, false) else (bif ((c0_impl_LongOfPlaces M a0 a1).getD ([], false, 0, 0, false, ())).snd.fst then ((c1_impl_LongOfPlaces M a0 a1).fst, (c1_impl_LongOfPlaces M a0 a1).snd) else ((c2_impl_LongOfPlaces M a0 a1).fst, (c2_impl_LongOfPlaces M a0 a1).snd)))
def r_impl_LongOfPlaces (M : FOps) (a0 : (List (Nat × Nat))) (a1 : Bool) : Bool :=
  ((decide (a0.length < 4611686018427387904)) && (bif !((a0.all fun x => p_impl_ValidPlace M x.fst x.snd) && (decide (1 ≤ a0.length) && decide (a0.length ≤ 64))) then true else (((c0_impl_LongOfPlaces M a0 a1).isSome) && (bif ((c0_impl_LongOfPlaces M a0 a1).getD ([], false, 0, 0, false, ())).snd.fst then ((decide (0 ≤ IntKind.i64.wrap ((↑(List.length ((c0_impl_LongOfPlaces M a0 a1).getD ([], false, 0, 0, false, ())).fst) : Int) - 1)) && decide (IntKind.i64.wrap ((↑(List.length ((c0_impl_LongOfPlaces M a0 a1).getD ([], false, 0, 0, false, ())).fst) : Int) - 1) < (↑(List.length ((c0_impl_LongOfPlaces M a0 a1).getD ([], false, 0, 0, false, ())).fst) : Int))) && ((decide (0 < (↑(List.length ((c0_impl_LongOfPlaces M a0 a1).getD ([], false, 0, 0, false, ())).fst) : Int))) && true)) else true))))
def S_impl_LongOfPlaces (M : FOps) : FSpec := mkSpec (.cons (.one (.ls (.pair (.fl .f32) (.fl .f32)))) (.cons (.one .bool) .nil)) (.cons (.one (.fl .f32)) (.cons (.one .bool) .nil)) (fun x => r_impl_LongOfPlaces M x.1 x.2.1) (fun x => F_impl_LongOfPlaces (p_impl_LongOfPlaces M x.1 x.2.1))


def F_laws_szPlaceS (r : Int) : AS.Ty (.cons (.one (.int .i64)) .nil) × List CS := ((r, ()), [])
def p_laws_szPlaceS (M : FOps) (a0 : (List (Nat × Nat))) (a1 : Int) : Int :=
  (bif decide (IntKind.i64.wrap (a1 - (↑a0.length : Int)) < 0) then Int.negSucc 0 else IntKind.i64.wrap (a1 - (↑a0.length : Int)))
def S_laws_szPlaceS (M : FOps) : FSpec := mkSpec (.cons (.one (.ls (.pair (.fl .f32) (.fl .f32)))) (.cons (.one (.int .i64)) .nil)) (.cons (.one (.int .i64)) .nil) (fun _ => true) (fun x => F_laws_szPlaceS (p_laws_szPlaceS M x.1 x.2.1))


def c0_laws_FnExactAreaOfPlaces (M : FOps) (a0 : (List (Nat × Nat))) : Int := p_laws_szPlaceS M a0 1048576
def c1_laws_FnExactAreaOfPlaces (M : FOps) (a0 : (List (Nat × Nat))) : Nat × Bool := p_impl_AreaOfPlaces M a0
def c2_laws_FnExactAreaOfPlaces (M : FOps) (a0 : (List (Nat × Nat))) : Nat × Bool := p_spec_AreaOfPlaces M a0
def F_laws_FnExactAreaOfPlaces (r : Bool) : AS.Ty (.cons (.one .bool) .nil) × List CS := ((r, ()), [])
def p_laws_FnExactAreaOfPlaces (M : FOps) (a0 : (List (Nat × Nat))) : Bool :=
  (bif decide ((c0_laws_FnExactAreaOfPlaces M a0) < 0) then true else (bif !p_laws_sameFloat M (M.wid (c1_laws_FnExactAreaOfPlaces M a0).fst) (M.wid (c2_laws_FnExactAreaOfPlaces M a0).fst) then false else (bif (c1_laws_FnExactAreaOfPlaces M a0).snd != (c2_laws_FnExactAreaOfPlaces M a0).snd then false else (bif !p_laws_eqPlaceS M a0 a0 then false else true))))
def r_laws_FnExactAreaOfPlaces (M : FOps) (a0 : (List (Nat × Nat))) : Bool :=
  (bif decide ((c0_laws_FnExactAreaOfPlaces M a0) < 0) then true else ((decide (a0.length ≤ 1073741824)) && ((a0.length.beq a0.length && true && r_spec_AreaOfPlaces M a0) && ((decide (a0.length ≤ 1073741824)) && ((a0.length.beq a0.length && true && r_impl_AreaOfPlaces M a0) && (bif !p_laws_sameFloat M (M.wid (c1_laws_FnExactAreaOfPlaces M a0).fst) (M.wid (c2_laws_FnExactAreaOfPlaces M a0).fst) then true else (bif (c1_laws_FnExactAreaOfPlaces M a0).snd != (c2_laws_FnExactAreaOfPlaces M a0).snd then true else ((decide (a0.length ≤ 1073741824)) && ((a0.length.beq a0.length && (a0.length.beq a0.length && true) && decide (a0.length < 4611686018427387904)) && true)))))))))
def S_laws_FnExactAreaOfPlaces (M : FOps) : FSpec := mkSpec (.cons (.one (.ls (.pair (.fl .f32) (.fl .f32)))) .nil) (.cons (.one .bool) .nil) (fun x => r_laws_FnExactAreaOfPlaces M x.1) (fun x => F_laws_FnExactAreaOfPlaces (p_laws_FnExactAreaOfPlaces M x.1))


def c0_laws_FnExactLongOfPlaces (M : FOps) (a0 : (List (Nat × Nat))) (a1 : Bool) : Int := p_laws_szPlaceS M a0 1048576
def c1_laws_FnExactLongOfPlaces (M : FOps) (a0 : (List (Nat × Nat))) (a1 : Bool) : Nat × Bool := p_impl_LongOfPlaces M a0 a1
def c2_laws_FnExactLongOfPlaces (M : FOps) (a0 : (List (Nat × Nat))) (a1 : Bool) : Nat × Bool := p_spec_LongOfPlaces M a0 a1
def F_laws_FnExactLongOfPlaces (r : Bool) : AS.Ty (.cons (.one .bool) .nil) × List CS := ((r, ()), [])
def p_laws_FnExactLongOfPlaces (M : FOps) (a0 : (List (Nat × Nat))) (a1 : Bool) : Bool :=
  (bif decide ((c0_laws_FnExactLongOfPlaces M a0 a1) < 0) then true else (bif !p_laws_sameFloat M (M.wid (c1_laws_FnExactLongOfPlaces M a0 a1).fst) (M.wid (c2_laws_FnExactLongOfPlaces M a0 a1).fst) then false else (bif (c1_laws_FnExactLongOfPlaces M a0 a1).snd != (c2_laws_FnExactLongOfPlaces M a0 a1).snd then false else (bif !p_laws_eqPlaceS M a0 a0 then false else true))))
def r_laws_FnExactLongOfPlaces (M : FOps) (a0 : (List (Nat × Nat))) (a1 : Bool) : Bool :=
  (bif decide ((c0_laws_FnExactLongOfPlaces M a0 a1) < 0) then true else ((decide (a0.length ≤ 1073741824)) && ((a0.length.beq a0.length && true && r_spec_LongOfPlaces M a0 a1) && ((decide (a0.length ≤ 1073741824)) && ((a0.length.beq a0.length && true && r_impl_LongOfPlaces M a0 a1) && (bif !p_laws_sameFloat M (M.wid (c1_laws_FnExactLongOfPlaces M a0 a1).fst) (M.wid (c2_laws_FnExactLongOfPlaces M a0 a1).fst) then true else (bif (c1_laws_FnExactLongOfPlaces M a0 a1).snd != (c2_laws_FnExactLongOfPlaces M a0 a1).snd then true else ((decide (a0.length ≤ 1073741824)) && ((a0.length.beq a0.length && (a0.length.beq a0.length && true) && decide (a0.length < 4611686018427387904)) && true)))))))))
def S_laws_FnExactLongOfPlaces (M : FOps) : FSpec := mkSpec (.cons (.one (.ls (.pair (.fl .f32) (.fl .f32)))) (.cons (.one .bool) .nil)) (.cons (.one .bool) .nil) (fun x => r_laws_FnExactLongOfPlaces M x.1 x.2.1) (fun x => F_laws_FnExactLongOfPlaces (p_laws_FnExactLongOfPlaces M x.1 x.2.1))


end
end Go.Dv
