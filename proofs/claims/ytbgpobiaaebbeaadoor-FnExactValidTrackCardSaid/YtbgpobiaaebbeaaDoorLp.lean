/- The plain law of areas and lengths of lists of places. -/
import Derived.Test.YtbgpobiaaebbeaaDoorLw
import Derived.Test.YtbgpobiaaebbeaaDoorWf
import Derived.Test.YtbgpobiaaebbeaaDoorLo
namespace Go.Dv
open Go.Cv

theorem eqPlaceS_refl (l : List (Nat × Nat)) : p_laws_eqPlaceS R l l = true := by
  unfold p_laws_eqPlaceS
  rw [decide_eq_true rfl, Bool.true_and, List.all_eq_true]
  exact fun i _ => eqPlace_refl _ _

/-! ### areas -/
/-! ### lengths -/
end Go.Dv
