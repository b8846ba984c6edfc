/- Fz, Gk, Gw, Gx: merged by merge.py. -/
import Derived.Test.YtbgpobiaaebbeaaDoorGa
import Derived.Test.YtbgpobiaaebbeaaDoorLw

/- Words that say the same number are the same; the size of a number. -/
namespace Go.Dv
open Go.Cv
open Ieee

end Go.Dv

/- Bounds of both kinds of floats; what is the same number in other digits; halves. -/
namespace Go.Dv
open Go.Cv
open Ieee

/-- a number no greater than a power of two -/
def Bk (k : FloatKind) (a : Nat) (E : Int) : Prop := Nm k a ∧ fv k a ≤ p2 E ∧ -(fv k a) ≤ p2 E

theorem bk_wid {a : Nat} {E : Int} (h : Bk .f32 a E) : Bd (R.wid a) E := by
  obtain ⟨h1, h2⟩ := wid_nm h.1
  exact ⟨h1, by rw [h2]; exact h.2.1, by rw [h2]; exact h.2.2⟩

/-! ### products in both orders -/
/-! ### the same number in other digits -/
/-! ### a difference against a number of few digits -/
end Go.Dv

/- Rounding keeps the order against every word; the cosine is not small between -0.24 and 0.24; an east that is wrapped is one. -/
namespace Go.Dv
open Go.Cv
open Ieee

/-- the word n is v, rounded: no word lies between -/
structure Rc (k : FloatKind) (v : Rat) (n : Nat) : Prop where
  le : ∀ c, Nm k c → Nm k n → v ≤ fv k c → fv k n ≤ fv k c
  ge : ∀ c, Nm k c → Nm k n → fv k c ≤ v → fv k c ≤ fv k n

/-! ### the cosine from below -/
theorem p2_m1 : p2 (-1) = 1 / 2 := by decide +kernel
theorem fv_q32 : fv .f32 1048576000 = 1 / 4 := by decide +kernel
theorem nm_q32 : Nm .f32 1048576000 := ⟨_, _, _, rfl⟩
end Go.Dv

/- An east that is wrapped lies between -0.5 and 0.5. -/
namespace Go.Dv
open Go.Cv
open Ieee

theorem nm_h32 : Nm .f32 1056964608 := ⟨_, _, _, rfl⟩
theorem fv_h32 : fv .f32 1056964608 = 1 / 2 := by decide +kernel
theorem nm_nh32 : Nm .f32 3204448256 := ⟨_, _, _, rfl⟩
theorem fv_nh32 : fv .f32 3204448256 = -(1 / 2) := by decide +kernel
/-- between -0.5 and 0.5 -/
def InH (x : Nat) : Prop := Nm .f32 x ∧ -(1 / 2) ≤ fv .f32 x ∧ fv .f32 x < 1 / 2

end Go.Dv
