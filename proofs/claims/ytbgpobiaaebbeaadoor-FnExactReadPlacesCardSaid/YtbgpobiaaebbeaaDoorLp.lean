/- Printed by gen2.py. -/
/- That what is narrowed fits (part 2); sine and angle of the program are those of the reference. -/
/- Lw, Lx: merged by merge.py. -/
/- The plain law of areas and lengths of lists of places. -/
import Derived.Test.YtbgpobiaaebbeaaDoorQd
import Derived.Test.YtbgpobiaaebbeaaDoorWa
import Derived.Test.YtbgpobiaaebbeaaDoorLo
import Derived.Test.YtbgpobiaaebbeaaDoorQb
import Derived.Test.YtbgpobiaaebbeaaDoorFv

set_option linter.unusedVariables false
set_option linter.unusedSimpArgs false

-- GENERATED BELOW (gen.py)
namespace Go.Dv
open Go.Cv
noncomputable section
def F_impl_ArePlaces_w (r : Bool) : AS.Ty (.cons (.one .bool) .nil) × List CS := ((r, ()), [])
def p_impl_ArePlaces_w (M : FOps) (a0 : (List (Nat × Nat))) : Bool :=
  (bif p_impl_within M (p_impl_length_impl_Place M a0) 1 64 then a0.all fun x => p_impl_ValidPlace M x.fst x.snd else false)
def r_impl_ArePlaces_w (M : FOps) (a0 : (List (Nat × Nat))) : Bool :=
  (bif p_impl_within M (p_impl_length_impl_Place M a0) 1 64 then ((decide (a0.length < 4611686018427387904)) && true) else true)
def S_impl_ArePlaces_w (M : FOps) : FSpec := mkSpec (.cons (.one (.ls (.pair (.fl .f32) (.fl .f32)))) .nil) (.cons (.one .bool) .nil) (fun x => r_impl_ArePlaces_w M x.1) (fun x => F_impl_ArePlaces_w (p_impl_ArePlaces_w M x.1))

end
end Go.Dv


namespace Go.Dv
open Go.Cv
open Ieee

theorem neq_not (k : FloatKind) (a b : Nat) : R.cmp .neq k a b = !R.cmp .eql k a b := rfl

/-! ### the sine -/

/-! ### the angle -/

end Go.Dv


/- The program's plain functions are the reference's. No program is in sight. -/
namespace Go.Dv
open Go.Cv
open Ieee

/-! ### what is compared -/
theorem sameFloat_refl (x : Nat) : p_laws_sameFloat R x x = true := by
  unfold p_laws_sameFloat
  simp only [neq_not]
  cases h : R.cmp .eql .f64 x x
  · rfl
  · cases R.cmp .eql .f64 x 0
    · simp
    · simp
theorem eqPlace_refl (x y : Nat) : p_laws_eqPlace R x y x y = true := by
  unfold p_laws_eqPlace
  rw [sameFloat_refl, sameFloat_refl]; rfl

end Go.Dv

/- The program's plain functions are the reference's (part 2). No program is in sight. -/
namespace Go.Dv
open Go.Cv
open Ieee

end Go.Dv


namespace Go.Dv
open Go.Cv

theorem eqPlaceS_refl (l : List (Nat × Nat)) : p_laws_eqPlaceS R l l = true := by
  unfold p_laws_eqPlaceS
  rw [decide_eq_true rfl, Bool.true_and, List.all_eq_true]
  exact fun i _ => eqPlace_refl _ _

/-! ### areas -/
/-! ### lengths -/
end Go.Dv
