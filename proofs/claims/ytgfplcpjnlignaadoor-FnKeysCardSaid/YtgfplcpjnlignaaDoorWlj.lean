/- Printed by gen2.py. -/
import Derived.Test.YtgfplcpjnlignaaDoorDs

set_option linter.unusedVariables false
set_option linter.unusedSimpArgs false

-- GENERATED BELOW (gen.py)
namespace Go.Dv
open Go.Cv
noncomputable section
def F_laws_b10Long (r : Bool) : AS.Ty (.cons (.one .bool) .nil) × List CS := ((r, ()), [])
def p_laws_b10Long (M : FOps) (a0 : (List Int)) (a1 : (List Int)) : Bool :=
  (bif decide ((↑a0.length : Int) > 1048576) then true else decide ((↑a1.length : Int) > 1048576))
def S_laws_b10Long (M : FOps) : FSpec := mkSpec (.cons (.one (.ls (.int .u8))) (.cons (.one (.ls (.int .u8))) .nil)) (.cons (.one .bool) .nil) (fun _ => true) (fun x => F_laws_b10Long (p_laws_b10Long M x.1 x.2.1))

def F_laws_b10At (r : Int) : AS.Ty (.cons (.one (.int .i64)) .nil) × List CS := ((r, ()), [])
def p_laws_b10At (M : FOps) (a0 : (List Int)) (a1 : Int) (a2 : Int) : Int :=
  (bif decide (a2 ≤ 1) then 0 else (bif decide (a1 < (↑a0.length : Int)) then (IntKind.i64.wrap (a0.getD a1.toNat 0)).tmod a2 else (IntKind.i64.wrap (IntKind.i64.wrap (a1 * 37) + 11)).tmod a2))
def r_laws_b10At (M : FOps) (a0 : (List Int)) (a1 : Int) (a2 : Int) : Bool :=
  (bif decide (a2 ≤ 1) then true else (bif decide (a1 < (↑a0.length : Int)) then ((decide (0 ≤ a1) && decide (a1 < (↑a0.length : Int))) && (!(a2 == 0) && true)) else (!(a2 == 0) && true)))
def S_laws_b10At (M : FOps) : FSpec := mkSpec (.cons (.one (.ls (.int .u8))) (.cons (.one (.int .i64)) (.cons (.one (.int .i64)) .nil))) (.cons (.one (.int .i64)) .nil) (fun x => r_laws_b10At M x.1 x.2.1 x.2.2.1) (fun x => F_laws_b10At (p_laws_b10At M x.1 x.2.1 x.2.2.1))

end
end Go.Dv
