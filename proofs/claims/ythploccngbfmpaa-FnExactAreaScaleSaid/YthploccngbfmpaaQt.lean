/- The laws' own functions on lists of places, as plain functions. -/
import Derived.Test.YthploccngbfmpaaQc
namespace Go.Dv
open Go.Cv
noncomputable section

def S_laws_toPlaceS (_ : FOps) : FSpec := mkSpec (.cons (.one (.ls shPlace)) .nil) (.cons (.one (.ls shPlace)) .nil) (fun x => decide (x.1.length ≤ 1073741824)) (fun x => ((x.1, ()), []))
def p_laws_eqPlaceS (M : FOps) (a b : List (Nat × Nat)) : Bool := decide ((a.length : Int) = (b.length : Int)) && (List.range a.length).all fun i => p_laws_eqPlace M (a.getD i (0, 0)).1 (a.getD i (0, 0)).2 (b.getD i (0, 0)).1 (b.getD i (0, 0)).2
def S_laws_eqPlaceS (M : FOps) : FSpec := mkSpec (.cons (.one (.ls shPlace)) (.cons (.one (.ls shPlace)) .nil)) (.cons (.one .bool) .nil) (fun x => decide (x.1.length < 2 ^ 62)) (fun x => ((p_laws_eqPlaceS M x.1 x.2.1, ()), []))
end
end Go.Dv
