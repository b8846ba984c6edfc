/- The plain law of texts of numbers: eight digits of a word. -/
import Derived.Test.YtgfplcpjnlignaaDoorQa
import Derived.Test.YtgfplcpjnlignaaDoorGz
import Derived.Test.YtgfplcpjnlignaaDoorLo
import Derived.Laws.Bits64b

set_option linter.unusedSimpArgs false
namespace Go.Dv
open Go.Cv

/-! ### bytes -/
theorem p_bytes_size (a : List Int) : (p_bytes a).size = a.length := by
  show (p_bytes a).data.size = _
  simp [p_bytes]

/-- the digits -/
def D16 : ByteArray := { data := #[48, 49, 50, 51, 52, 53, 54, 55, 56, 57, 97, 98, 99, 100, 101, 102] }
def hd (n : Nat) : Int := p_byteAt D16 (n : Int)
/-- a word's eight digits -/
def hex8 (b : Nat) : List Int := [hd (b / 268435456 % 16), hd (b / 16777216 % 16), hd (b / 1048576 % 16), hd (b / 65536 % 16), hd (b / 4096 % 16), hd (b / 256 % 16), hd (b / 16 % 16), hd (b % 16)]
theorem dt {p : Prop} [Decidable p] (h : p) : decide p = true := decide_eq_true h
theorem df {p : Prop} [Decidable p] (h : ¬ p) : decide p = false := decide_eq_false h

end Go.Dv
