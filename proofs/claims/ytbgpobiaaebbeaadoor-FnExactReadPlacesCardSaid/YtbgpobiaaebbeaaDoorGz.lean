/- Fz, Gk, Gw, Gx: merged by merge.py. -/
import Derived.Test.YtbgpobiaaebbeaaDoorFv
import Derived.Test.YtbgpobiaaebbeaaDoorQb
import Derived.Test.YtbgpobiaaebbeaaDoorLp

/- Words that say the same number are the same; the size of a number. -/
namespace Go.Dv
open Go.Cv
open Ieee

end Go.Dv

/- Bounds of both kinds of floats; what is the same number in other digits; halves. -/
namespace Go.Dv
open Go.Cv
open Ieee

/-! ### products in both orders -/
/-! ### the same number in other digits -/
/-! ### a difference against a number of few digits -/
end Go.Dv

/- Rounding keeps the order against every word; the cosine is not small between -0.24 and 0.24; an east that is wrapped is one. -/
namespace Go.Dv
open Go.Cv
open Ieee

/-- the word n is v, rounded: no word lies between -/
structure Rc (k : FloatKind) (v : Rat) (n : Nat) : Prop where
  le : ∀ c, Nm k c → Nm k n → v ≤ fv k c → fv k n ≤ fv k c
  ge : ∀ c, Nm k c → Nm k n → fv k c ≤ v → fv k c ≤ fv k n

/-! ### the cosine from below -/
end Go.Dv

/- An east that is wrapped lies between -0.5 and 0.5. -/
namespace Go.Dv
open Go.Cv
open Ieee

end Go.Dv
