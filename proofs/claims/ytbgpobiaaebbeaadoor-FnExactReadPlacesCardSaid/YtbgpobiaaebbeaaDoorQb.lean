/- Sine and angle as plain functions: what the program's and the reference's texts compute, step by step. -/
import Derived.Test.YtbgpobiaaebbeaaDoorQa

namespace Go.Dv
open Go.Cv
noncomputable section

/-! ### angles -/

variable {β : Type}
@[reducible] def shPlace : Sh := .pair (.fl .f32) (.fl .f32)
/-- whether all places of a list are valid -/
def validsB (M : FOps) (l : List (Nat × Nat)) : Bool := l.all fun x => p_impl_ValidPlace M x.1 x.2
def S_impl_areValid (M : FOps) : FSpec := mkSpec (.cons (.one (.ls shPlace)) .nil) (.cons (.one .bool) .nil) (fun x => decide (x.1.length < 2 ^ 62)) (fun x => ((validsB M x.1, ()), []))
def placesB (M : FOps) (l : List (Nat × Nat)) : Bool := validsB M l && (decide (1 ≤ l.length) && decide (l.length ≤ 64))
def S_impl_ArePlaces (M : FOps) : FSpec := mkSpec (.cons (.one (.ls shPlace)) .nil) (.cons (.one .bool) .nil) (fun x => decide (x.1.length < 2 ^ 62)) (fun x => ((placesB M x.1, ()), []))
def S_spec_l02Are (M : FOps) : FSpec := mkSpec (.cons (.one (.ls shPlace)) .nil) (.cons (.one .bool) .nil) (fun x => decide (x.1.length < 2 ^ 62)) (fun x => ((placesB M x.1, ()), []))
end
end Go.Dv
