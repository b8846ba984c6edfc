/- Numbers that are read: word for word, by the library and by the reference. -/
import Derived.Test.YtgfplcpjnlignaaDoorLrb

set_option linter.unusedSimpArgs false
namespace Go.Dv
open Go.Cv

/-- a word's number -/
noncomputable def gw (w : ByteArray) : Option Nat :=
  if w.size = 8 then (match hv 0 w.data.toList with
    | some n => if bw (cn .f32 n) = n then some (cn .f32 n) else none
    | none => none) else none

end Go.Dv
