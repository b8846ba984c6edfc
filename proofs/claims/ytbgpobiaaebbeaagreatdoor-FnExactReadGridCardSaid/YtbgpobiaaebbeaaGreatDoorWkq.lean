/- Functions of the library as plain functions: repeated and joined texts; trailing zeros. -/
/- Functions of Go's library that are met by their contracts: split texts, errors. -/
/- Functions of Go's library that are met by their contracts: texts that are cut, numbers in decimal. -/
import Derived.Lib.ItoaNum
import Derived.Lib.ParseIntB
import Derived.Lib.IndexMore
import Derived.Shelf.Strings.Split
import Derived.Test.YtbgpobiaaebbeaaGreatDoorYm
import Derived.Lib.Join
import Derived.Lib.Repeat

namespace Go.Dv
open Go.Cv
noncomputable section

def S_math_bits_TrailingZeros64_16 (_ : FOps) : FSpec := mkSpec (.cons (.lit (.int .u64 16)) .nil) (.cons (.one (.int .i64)) .nil) (fun _ => true) (fun _ => ((4, ()), []))
def S_math_bits_TrailingZeros_16 (_ : FOps) : FSpec := mkSpec (.cons (.lit (.int .u64 16)) .nil) (.cons (.one (.int .i64)) .nil) (fun _ => true) (fun _ => ((4, ()), []))
def S_internal_strconv_isPowerOfTwo_16 (_ : FOps) : FSpec := mkSpec (.cons (.lit (.int .i64 16)) .nil) (.cons (.one .bool) .nil) (fun _ => true) (fun _ => ((true, ()), []))
def p_strings_Repeat (_ : FOps) (s : ByteArray) (n : Int) : ByteArray := ⟨(Lib.repeatL s.data.toList n.toNat).toArray⟩
def r_strings_Repeat (_ : FOps) (s : ByteArray) (n : Int) : Bool := decide (0 ≤ n) && (decide (n ≤ 1000000) && decide (s.size ≤ 1000000))
def S_strings_Repeat (M : FOps) : FSpec := mkSpec (.cons (.one .str) (.cons (.one (.int .i64)) .nil)) (.cons (.one .str) .nil) (fun x => r_strings_Repeat M x.1 x.2.1) (fun x => ((p_strings_Repeat M x.1 x.2.1, ()), []))
end
end Go.Dv


set_option linter.unusedVariables false
namespace Go.Dv
open Go.Cv
noncomputable section
def F_strings_Split (r : List ByteArray) : AS.Ty (.cons (.one (.ls .str)) .nil) × List CS := ((r, ()), [])
def p_strings_Split (M : FOps) (s : ByteArray) (sep : ByteArray) : List ByteArray :=
  Lib.splitB sep 0 (Lib.countB s sep) s
def r_strings_Split (M : FOps) (s : ByteArray) (sep : ByteArray) : Bool :=
  decide (s.size < 4294967281) && decide (1 ≤ sep.size)
def S_strings_Split (M : FOps) : FSpec := mkSpec (.cons (.one .str) (.cons (.one .str) .nil)) (.cons (.one (.ls .str)) .nil) (fun x => r_strings_Split M x.1 x.2.1) (fun x => F_strings_Split (p_strings_Split M x.1 x.2.1))

/-- is it one of the library's errors of form or of range -/
def errOk (T : TypeId) : Ifc → Bool
  | some (some (t, .int .i64 n)) => Nat.beq t T && (decide (n = 2) || decide (n = 1))
  | _ => false
def F_strconv_toError (r : Ifc) : AS.Ty (.cons (.one .ifc) .nil) × List CS := ((r, ()), [])
def p_strconv_toError (M : FOps) (fn s : ByteArray) (base bits : Int) (e : Ifc) : Ifc := some none
def r_strconv_toError (M : FOps) (fn s : ByteArray) (base bits : Int) (e : Ifc) : Bool :=
  decide (s.size ≤ 281474976710656) && errOk 89 e
def S_strconv_toError (M : FOps) : FSpec := mkSpec (.cons (.one .str) (.cons (.one .str) (.cons (.one (.int .i64)) (.cons (.one (.int .i64)) (.cons (.one .ifc) .nil))))) (.cons (.one .ifc) .nil) (fun x => r_strconv_toError M x.1 x.2.1 x.2.2.1 x.2.2.2.1 x.2.2.2.2.1) (fun x => F_strconv_toError (p_strconv_toError M x.1 x.2.1 x.2.2.1 x.2.2.2.1 x.2.2.2.2.1))
end
end Go.Dv


set_option linter.unusedVariables false
namespace Go.Dv
open Go.Cv
noncomputable section
def F_strings_Cut (r : ByteArray × ByteArray × Bool) : AS.Ty (.cons (.one .str) (.cons (.one .str) (.cons (.one .bool) .nil))) × List CS := ((r.1, (r.2.1, (r.2.2, ()))), [])
def p_strings_Cut (M : FOps) (s : ByteArray) (sep : ByteArray) : ByteArray × ByteArray × Bool :=
  (⟨(Lib.cut s.data.toList sep.data.toList).1.toArray⟩, ⟨(Lib.cut s.data.toList sep.data.toList).2.1.toArray⟩, (Lib.cut s.data.toList sep.data.toList).2.2)
def r_strings_Cut (M : FOps) (s : ByteArray) (sep : ByteArray) : Bool :=
  decide (s.size < 4294967281)
def S_strings_Cut (M : FOps) : FSpec := mkSpec (.cons (.one .str) (.cons (.one .str) .nil)) (.cons (.one .str) (.cons (.one .str) (.cons (.one .bool) .nil))) (fun x => r_strings_Cut M x.1 x.2.1) (fun x => F_strings_Cut (p_strings_Cut M x.1 x.2.1))

def F_strconv_FormatInt_dec (r : ByteArray) : AS.Ty (.cons (.one .str) .nil) × List CS := ((r, ()), [])
def p_strconv_FormatInt_dec (M : FOps) (n : Int) : ByteArray :=
  ⟨(Lib.itoa n).toArray⟩
def r_strconv_FormatInt_dec (M : FOps) (n : Int) : Bool :=
  decide (-9223372036854775808 ≤ n) && decide (n ≤ 9223372036854775807)
def S_strconv_FormatInt_dec (M : FOps) : FSpec := mkSpec (.cons (.one (.int .i64)) (.cons (.lit (.int .i64 10)) .nil)) (.cons (.one .str) .nil) (fun x => r_strconv_FormatInt_dec M x.1) (fun x => F_strconv_FormatInt_dec (p_strconv_FormatInt_dec M x.1))

def F_strconv_ParseInt_dec (r : Int × Ifc) : AS.Ty (.cons (.one (.int .i64)) (.cons (.one .ifc) .nil)) × List CS := ((r.1, (r.2, ())), [])
def p_strconv_ParseInt_dec (M : FOps) (s : ByteArray) : Int × Ifc :=
  match Lib.parseIntB 64 s.data.toList with
  | .ok v => (v, none)
  | .syntax => (0, some none)
  | .range => (Lib.intSat 64 s.data.toList, some none)
def r_strconv_ParseInt_dec (M : FOps) (s : ByteArray) : Bool :=
  decide (s.size ≤ 281474976710656)
def S_strconv_ParseInt_dec (M : FOps) : FSpec := mkSpec (.cons (.one .str) (.cons (.lit (.int .i64 10)) (.cons (.lit (.int .i64 64)) .nil))) (.cons (.one (.int .i64)) (.cons (.one .ifc) .nil)) (fun x => r_strconv_ParseInt_dec M x.1) (fun x => F_strconv_ParseInt_dec (p_strconv_ParseInt_dec M x.1))
end
end Go.Dv
