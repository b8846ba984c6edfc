/- The plain law of areas and lengths of lists of places. -/
import Derived.Test.YtbgpobiaaebbeaaGreatLw
import Derived.Test.YtbgpobiaaebbeaaGreatQd
import Derived.Test.YtbgpobiaaebbeaaGreatWa
import Derived.Test.YtbgpobiaaebbeaaGreatLo
namespace Go.Dv
open Go.Cv

theorem number_eq (x : Nat) : p_impl_finite R x true = p_spec_l02Number R x := by
  unfold p_impl_finite p_spec_l02Number
  rw [fin_same]; rfl
/-! ### areas -/
/-! ### lengths -/
end Go.Dv
