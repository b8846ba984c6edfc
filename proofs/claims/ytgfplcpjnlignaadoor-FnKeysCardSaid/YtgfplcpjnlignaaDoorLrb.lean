/- Words of hexadecimal digits: the library's reading, and the reference's. -/
import Derived.Test.YtgfplcpjnlignaaDoorLra

set_option linter.unusedSimpArgs false
namespace Go.Dv
open Go.Cv

/-- the digit of a byte, as the reference has it; as the library has it -/
def hexv (b : UInt8) : Option Nat := if 48 ≤ b.toNat ∧ b.toNat ≤ 57 then some (b.toNat - 48) else if 97 ≤ b.toNat ∧ b.toNat ≤ 102 then some (b.toNat - 87) else none
def hv : Nat → List UInt8 → Option Nat
  | n, [] => some n
  | n, b :: r => match hexv b with
    | some d => hv (16 * n + d) r
    | none => none
end Go.Dv
