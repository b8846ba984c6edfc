/- The plain law of FnExactReadPlaces. -/
import Derived.Test.YtgfplcpjnlignaaDoorLrd
import Derived.Test.YtgfplcpjnlignaaDoorWke
import Derived.Test.YtgfplcpjnlignaaDoorQa
import Derived.Test.YtgfplcpjnlignaaDoorWkh
import Derived.Test.YtgfplcpjnlignaaDoorWkc

set_option linter.unusedSimpArgs false
namespace Go.Dv
open Go.Cv

/-- the words of a text -/
def wds (s : ByteArray) : List ByteArray := (cutG 44 [] s.data.toList).map ofL
/-- what both read -/
noncomputable def rd (s : ByteArray) : List Nat × Bool :=
  bif s.toList == (ByteArray.mk #[110, 111, 110, 101]).toList then ([], true) else
    match mapG (wds s) with
    | some xs => if (wds s).length ≤ 256 then (xs, true) else ([], false)
    | none => ([], false)
/-! ### numbers by twos -/
/-! ### marks -/
end Go.Dv
