/- Functions of the library as plain functions: repeated and joined texts; trailing zeros. -/
/- Functions of Go's library that are met by their contracts: split texts, errors. -/
import Derived.Shelf.Strings.Split
import Derived.Test.YtjohfkfpfjdceaaGreatDoorLq
import Derived.Lib.Join
import Derived.Lib.Repeat

namespace Go.Dv
open Go.Cv
noncomputable section

def S_math_bits_TrailingZeros64_16 (_ : FOps) : FSpec := mkSpec (.cons (.lit (.int .u64 16)) .nil) (.cons (.one (.int .i64)) .nil) (fun _ => true) (fun _ => ((4, ()), []))
def S_math_bits_TrailingZeros_16 (_ : FOps) : FSpec := mkSpec (.cons (.lit (.int .u64 16)) .nil) (.cons (.one (.int .i64)) .nil) (fun _ => true) (fun _ => ((4, ()), []))
def S_internal_strconv_isPowerOfTwo_16 (_ : FOps) : FSpec := mkSpec (.cons (.lit (.int .i64 16)) .nil) (.cons (.one .bool) .nil) (fun _ => true) (fun _ => ((true, ()), []))
def p_strings_Repeat (_ : FOps) (s : ByteArray) (n : Int) : ByteArray := ⟨(Lib.repeatL s.data.toList n.toNat).toArray⟩
def r_strings_Repeat (_ : FOps) (s : ByteArray) (n : Int) : Bool := decide (0 ≤ n) && (decide (n ≤ 1000000) && decide (s.size ≤ 1000000))
def S_strings_Repeat (M : FOps) : FSpec := mkSpec (.cons (.one .str) (.cons (.one (.int .i64)) .nil)) (.cons (.one .str) .nil) (fun x => r_strings_Repeat M x.1 x.2.1) (fun x => ((p_strings_Repeat M x.1 x.2.1, ()), []))
def p_strings_Join (_ : FOps) (l : List ByteArray) (s : ByteArray) : ByteArray := ⟨(Lib.join (l.map (·.data.toList)) s.data.toList).toArray⟩
def r_strings_Join (_ : FOps) (l : List ByteArray) (s : ByteArray) : Bool := decide (l.length ≤ 1000000000) && decide ((Lib.join (l.map (·.data.toList)) s.data.toList).length ≤ 1000000000)
def S_strings_Join (M : FOps) : FSpec := mkSpec (.cons (.one (.ls .str)) (.cons (.one .str) .nil)) (.cons (.one .str) .nil) (fun x => r_strings_Join M x.1 x.2.1) (fun x => ((p_strings_Join M x.1 x.2.1, ()), []))
end
end Go.Dv


set_option linter.unusedVariables false
namespace Go.Dv
open Go.Cv
noncomputable section
def F_strings_Split (r : List ByteArray) : AS.Ty (.cons (.one (.ls .str)) .nil) × List CS := ((r, ()), [])
def p_strings_Split (M : FOps) (s : ByteArray) (sep : ByteArray) : List ByteArray :=
  Lib.splitB sep 0 (Lib.countB s sep) s
def r_strings_Split (M : FOps) (s : ByteArray) (sep : ByteArray) : Bool :=
  decide (s.size < 4294967281) && decide (1 ≤ sep.size)
def S_strings_Split (M : FOps) : FSpec := mkSpec (.cons (.one .str) (.cons (.one .str) .nil)) (.cons (.one (.ls .str)) .nil) (fun x => r_strings_Split M x.1 x.2.1) (fun x => F_strings_Split (p_strings_Split M x.1 x.2.1))

/-- is it one of the library's errors of form or of range -/
def errOk (T : TypeId) : Ifc → Bool
  | some (some (t, .int .i64 n)) => Nat.beq t T && (decide (n = 2) || decide (n = 1))
  | _ => false
def F_strconv_toError (r : Ifc) : AS.Ty (.cons (.one .ifc) .nil) × List CS := ((r, ()), [])
def p_strconv_toError (M : FOps) (fn s : ByteArray) (base bits : Int) (e : Ifc) : Ifc := some none
def r_strconv_toError (M : FOps) (fn s : ByteArray) (base bits : Int) (e : Ifc) : Bool :=
  decide (s.size ≤ 281474976710656) && errOk 182 e
def S_strconv_toError (M : FOps) : FSpec := mkSpec (.cons (.one .str) (.cons (.one .str) (.cons (.one (.int .i64)) (.cons (.one (.int .i64)) (.cons (.one .ifc) .nil))))) (.cons (.one .ifc) .nil) (fun x => r_strconv_toError M x.1 x.2.1 x.2.2.1 x.2.2.2.1 x.2.2.2.2.1) (fun x => F_strconv_toError (p_strconv_toError M x.1 x.2.1 x.2.2.1 x.2.2.2.1 x.2.2.2.2.1))
end
end Go.Dv
