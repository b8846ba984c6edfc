/- Functions of the library as plain functions: repeated and joined texts; trailing zeros. -/
import Derived.Test.YtbgpobiaaebbeaaDoorQd
import Derived.Lib.Join
import Derived.Lib.Repeat
namespace Go.Dv
open Go.Cv
noncomputable section

def S_math_bits_TrailingZeros64_16 (_ : FOps) : FSpec := mkSpec (.cons (.lit (.int .u64 16)) .nil) (.cons (.one (.int .i64)) .nil) (fun _ => true) (fun _ => ((4, ()), []))
def S_math_bits_TrailingZeros_16 (_ : FOps) : FSpec := mkSpec (.cons (.lit (.int .u64 16)) .nil) (.cons (.one (.int .i64)) .nil) (fun _ => true) (fun _ => ((4, ()), []))
def S_internal_strconv_isPowerOfTwo_16 (_ : FOps) : FSpec := mkSpec (.cons (.lit (.int .i64 16)) .nil) (.cons (.one .bool) .nil) (fun _ => true) (fun _ => ((true, ()), []))
def p_strings_Repeat (_ : FOps) (s : ByteArray) (n : Int) : ByteArray := ⟨(Lib.repeatL s.data.toList n.toNat).toArray⟩
def r_strings_Repeat (_ : FOps) (s : ByteArray) (n : Int) : Bool := decide (0 ≤ n) && (decide (n ≤ 1000000) && decide (s.size ≤ 1000000))
def S_strings_Repeat (M : FOps) : FSpec := mkSpec (.cons (.one .str) (.cons (.one (.int .i64)) .nil)) (.cons (.one .str) .nil) (fun x => r_strings_Repeat M x.1 x.2.1) (fun x => ((p_strings_Repeat M x.1 x.2.1, ()), []))
def p_strings_Join (_ : FOps) (l : List ByteArray) (s : ByteArray) : ByteArray := ⟨(Lib.join (l.map (·.data.toList)) s.data.toList).toArray⟩
def r_strings_Join (_ : FOps) (l : List ByteArray) (s : ByteArray) : Bool := decide (l.length ≤ 1000000000) && decide ((Lib.join (l.map (·.data.toList)) s.data.toList).length ≤ 1000000000)
def S_strings_Join (M : FOps) : FSpec := mkSpec (.cons (.one (.ls .str)) (.cons (.one .str) .nil)) (.cons (.one .str) .nil) (fun x => r_strings_Join M x.1 x.2.1) (fun x => ((p_strings_Join M x.1 x.2.1, ()), []))
end
end Go.Dv
