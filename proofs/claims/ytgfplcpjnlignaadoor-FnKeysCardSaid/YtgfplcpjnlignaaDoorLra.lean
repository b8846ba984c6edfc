/- Texts that are cut at a byte: the library's way and the reference's give the same parts. -/
import Derived.Test.YtgfplcpjnlignaaDoorLhc
import Derived.Test.YtgfplcpjnlignaaDoorWkh
import Derived.Test.YtgfplcpjnlignaaDoorEa
import Derived.Test.YtgfplcpjnlignaaDoorWke
import Derived.Test.YtgfplcpjnlignaaDoorQa
import Derived.Lib.SplitLaws
import Derived.Lib.IndexBytes

set_option linter.unusedSimpArgs false
namespace Go.Dv
open Go.Cv

def cutG (c : UInt8) : List UInt8 → List UInt8 → List (List UInt8)
  | cur, [] => [cur]
  | cur, b :: r => if b == c then cur :: cutG c [] r else cutG c (cur ++ [b]) r

def ofL (l : List UInt8) : ByteArray := ⟨l.toArray⟩
end Go.Dv
