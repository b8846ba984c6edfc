/- The plain law of areas and lengths of lists of places. -/
import Derived.Test.YtbgpobiaaebbeaaDoorLw
import Derived.Test.YtbgpobiaaebbeaaDoorWf
import Derived.Test.YtbgpobiaaebbeaaDoorLo
namespace Go.Dv
open Go.Cv

theorem eqPlaceS_refl (l : List (Nat × Nat)) : p_laws_eqPlaceS R l l = true := by
  unfold p_laws_eqPlaceS
  rw [decide_eq_true rfl, Bool.true_and, List.all_eq_true]
  exact fun i _ => eqPlace_refl _ _

/-! ### areas -/
theorem sz_small {l : List (Nat × Nat)} (h : l.length ≤ 9223372036854775807) (hs : decide (p_laws_szPlaceS R l 1048576 < 0) = false) : l.length ≤ 1048576 := by
  have hs := of_decide_eq_false hs
  unfold p_laws_szPlaceS at hs
  rw [wrap_small (by omega) (by omega)] at hs
  cases hd : decide ((1048576 : Int) - (l.length : Int) < 0)
  · have := of_decide_eq_false hd; omega
  · rw [hd] at hs
    exact absurd (by decide : (Int.negSucc 0) < 0) hs

/-! ### lengths -/
end Go.Dv
