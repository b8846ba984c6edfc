/- Printed by gen2.py. -/
import Derived.Test.YtbgpobiaaebbeaaDoorQd
import Derived.Test.YtbgpobiaaebbeaaDoorWa

set_option linter.unusedVariables false
set_option linter.unusedSimpArgs false

-- GENERATED BELOW (gen.py)
namespace Go.Dv
open Go.Cv
noncomputable section
def F_impl_ArePlaces_w (r : Bool) : AS.Ty (.cons (.one .bool) .nil) × List CS := ((r, ()), [])
def p_impl_ArePlaces_w (M : FOps) (a0 : (List (Nat × Nat))) : Bool :=
  (bif p_impl_within M (p_impl_length_impl_Place M a0) 1 64 then a0.all fun x => p_impl_ValidPlace M x.fst x.snd else false)
def r_impl_ArePlaces_w (M : FOps) (a0 : (List (Nat × Nat))) : Bool :=
  (bif p_impl_within M (p_impl_length_impl_Place M a0) 1 64 then ((decide (a0.length < 4611686018427387904)) && true) else true)
def S_impl_ArePlaces_w (M : FOps) : FSpec := mkSpec (.cons (.one (.ls (.pair (.fl .f32) (.fl .f32)))) .nil) (.cons (.one .bool) .nil) (fun x => r_impl_ArePlaces_w M x.1) (fun x => F_impl_ArePlaces_w (p_impl_ArePlaces_w M x.1))

end
end Go.Dv


set_option linter.unusedVariables false
set_option linter.unusedSimpArgs false

-- GENERATED BELOW (gen.py)
namespace Go.Dv
open Go.Cv
noncomputable section
def F_laws_szPlaceS (r : Int) : AS.Ty (.cons (.one (.int .i64)) .nil) × List CS := ((r, ()), [])
def p_laws_szPlaceS (M : FOps) (a0 : (List (Nat × Nat))) (a1 : Int) : Int :=
  (bif decide (IntKind.i64.wrap (a1 - (↑a0.length : Int)) < 0) then Int.negSucc 0 else IntKind.i64.wrap (a1 - (↑a0.length : Int)))
def S_laws_szPlaceS (M : FOps) : FSpec := mkSpec (.cons (.one (.ls (.pair (.fl .f32) (.fl .f32)))) (.cons (.one (.int .i64)) .nil)) (.cons (.one (.int .i64)) .nil) (fun _ => true) (fun x => F_laws_szPlaceS (p_laws_szPlaceS M x.1 x.2.1))

end
end Go.Dv
