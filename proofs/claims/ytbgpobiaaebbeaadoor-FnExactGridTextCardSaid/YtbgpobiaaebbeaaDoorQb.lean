/- Sine and angle as plain functions: what the program's and the reference's texts compute, step by step. -/
import Derived.Test.YtbgpobiaaebbeaaDoorQa
namespace Go.Dv
open Go.Cv
noncomputable section

/-! ### angles -/

variable {β : Type}
/-- whether all of a list are finite -/
def finsB (M : FOps) (l : List Nat) : Bool := l.all fun x => p_impl_IsFinite M x
def S_impl_areFinite (M : FOps) : FSpec := mkSpec (.cons (.one (.ls (.fl .f32))) .nil) (.cons (.one .bool) .nil) (fun x => decide (x.1.length < 2 ^ 62)) (fun x => ((finsB M x.1, ()), []))

end
end Go.Dv
