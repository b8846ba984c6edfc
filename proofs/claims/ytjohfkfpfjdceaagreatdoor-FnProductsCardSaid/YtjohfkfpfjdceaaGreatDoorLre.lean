/- Numbers that are read, list for list: the library's way and the reference's give the same. -/
/- The plain law of FnExactReadPlaces. -/
import Derived.Test.YtjohfkfpfjdceaaGreatDoorZko
import Derived.Test.YtjohfkfpfjdceaaGreatDoorDr
import Derived.Test.YtjohfkfpfjdceaaGreatDoorWkb
import Derived.Test.YtjohfkfpfjdceaaGreatDoorGa
import Derived.Test.YtjohfkfpfjdceaaGreatDoorLq
import Derived.Test.YtjohfkfpfjdceaaGreatDoorZli
import Derived.Test.YtjohfkfpfjdceaaGreatDoorWkm
import Derived.Test.YtjohfkfpfjdceaaGreatDoorLrc

set_option linter.unusedSimpArgs false
namespace Go.Dv
open Go.Cv

def w0 : ByteArray := ByteArray.mk #[]
noncomputable def mapG : List ByteArray → Option (List Nat)
  | [] => some []
  | w :: r => match gw w with
    | none => none
    | some x => match mapG r with
      | none => none
      | some xs => some (x :: xs)

end Go.Dv


set_option linter.unusedSimpArgs false
namespace Go.Dv
open Go.Cv

/-- the words of a text -/
def wds (s : ByteArray) : List ByteArray := (cutG 44 [] s.data.toList).map ofL
/-- what both read -/
noncomputable def rd (s : ByteArray) : List Nat × Bool :=
  bif s.toList == (ByteArray.mk #[110, 111, 110, 101]).toList then ([], true) else
    match mapG (wds s) with
    | some xs => if (wds s).length ≤ 256 then (xs, true) else ([], false)
    | none => ([], false)
/-! ### numbers by twos -/
/-! ### marks -/
end Go.Dv
