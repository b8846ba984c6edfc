/- The plain law of texts of numbers and places. -/
import Derived.Test.YtgfplcpjnlignaaDoorLh
import Derived.Test.YtgfplcpjnlignaaDoorQa
import Derived.Test.YtgfplcpjnlignaaDoorGa
import Derived.Test.YtgfplcpjnlignaaDoorLo

set_option linter.unusedSimpArgs false
namespace Go.Dv
open Go.Cv

/-! ### words -/
/-- a number's bits -/
def bw (x : Nat) : Nat := bif R.cmp .eql .f32 x x then x else 2143289344
/-- a number's text -/
def tx (x : Nat) : ByteArray := p_bytes (hex8 (bw x))
theorem hd0 : hd 0 = 48 := by decide
/-! ### joined texts -/
/-! ### texts of places -/
theorem toList_beq (a : ByteArray) : (a.toList == a.toList) = true := by simp
end Go.Dv
