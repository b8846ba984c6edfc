/- Numbers that are read, list for list: the library's way and the reference's give the same. -/
import Derived.Test.YtgfplcpjnlignaaDoorLrc

set_option linter.unusedSimpArgs false
namespace Go.Dv
open Go.Cv

def w0 : ByteArray := ByteArray.mk #[]
noncomputable def mapG : List ByteArray → Option (List Nat)
  | [] => some []
  | w :: r => match gw w with
    | none => none
    | some x => match mapG r with
      | none => none
      | some xs => some (x :: xs)

end Go.Dv
