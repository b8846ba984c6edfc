/- Functions of the library as plain functions: trimmed texts. -/
import Derived.Test.YtgfplcpjnlignaaDoorQa
import Derived.Shelf.Strings.SlTrimAscii

namespace Go.Dv
open Go.Cv
noncomputable section

def p_strings_Trim (_ : FOps) (s c : ByteArray) : ByteArray := ⟨(Lib.trimS s.data.toList c.data.toList).toArray⟩
def r_strings_Trim (_ : FOps) (s c : ByteArray) : Bool := decide (s.size ≤ 1073741824) && (decide (c.size ≤ 1073741824) && c.data.toList.all (fun b => decide (b.toNat < 128)))
def S_strings_Trim (M : FOps) : FSpec := mkSpec (.cons (.one .str) (.cons (.one .str) .nil)) (.cons (.one .str) .nil) (fun x => r_strings_Trim M x.1 x.2.1) (fun x => ((p_strings_Trim M x.1 x.2.1, ()), []))
end
end Go.Dv
