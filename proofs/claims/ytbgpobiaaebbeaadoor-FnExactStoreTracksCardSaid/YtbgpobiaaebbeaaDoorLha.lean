/- The plain law of texts of numbers: eight digits of a word. -/
/- The plain law of areas and lengths of lists of places. -/
/- The plain law of texts of numbers and places. -/
import Derived.Test.YtbgpobiaaebbeaaDoorLw
import Derived.Test.YtbgpobiaaebbeaaDoorWf
import Derived.Test.YtbgpobiaaebbeaaDoorLo
import Derived.Test.YtbgpobiaaebbeaaDoorWkb
import Derived.Test.YtbgpobiaaebbeaaDoorGz
import Derived.Laws.Bits64b

set_option linter.unusedSimpArgs false
namespace Go.Dv
open Go.Cv

/-! ### bytes -/
/-- the digits -/
def D16 : ByteArray := { data := #[48, 49, 50, 51, 52, 53, 54, 55, 56, 57, 97, 98, 99, 100, 101, 102] }
def hd (n : Nat) : Int := p_byteAt D16 (n : Int)
/-- a word's eight digits -/
def hex8 (b : Nat) : List Int := [hd (b / 268435456 % 16), hd (b / 16777216 % 16), hd (b / 1048576 % 16), hd (b / 65536 % 16), hd (b / 4096 % 16), hd (b / 256 % 16), hd (b / 16 % 16), hd (b % 16)]
theorem dt {p : Prop} [Decidable p] (h : p) : decide p = true := decide_eq_true h
theorem df {p : Prop} [Decidable p] (h : ¬ p) : decide p = false := decide_eq_false h

end Go.Dv


namespace Go.Dv
open Go.Cv

theorem eqPlaceS_refl (l : List (Nat × Nat)) : p_laws_eqPlaceS R l l = true := by
  unfold p_laws_eqPlaceS
  rw [decide_eq_true rfl, Bool.true_and, List.all_eq_true]
  exact fun i _ => eqPlace_refl _ _

/-! ### areas -/
/-! ### lengths -/
end Go.Dv


set_option linter.unusedSimpArgs false
namespace Go.Dv
open Go.Cv

/-! ### words -/
theorem cmp_neq (k : FloatKind) (a b : Nat) : R.cmp .neq k a b = !R.cmp .eql k a b := by
  show (fcmp .neq k a b).getD false = !(fcmp .eql k a b).getD false
  simp [fcmp]
/-- a number's bits -/
def bw (x : Nat) : Nat := bif R.cmp .eql .f32 x x then x else 2143289344
/-- a number's text -/
def tx (x : Nat) : ByteArray := p_bytes (hex8 (bw x))
theorem hd0 : hd 0 = 48 := by decide
/-! ### joined texts -/
/-! ### texts of places -/
theorem toList_beq (a : ByteArray) : (a.toList == a.toList) = true := by simp
end Go.Dv
