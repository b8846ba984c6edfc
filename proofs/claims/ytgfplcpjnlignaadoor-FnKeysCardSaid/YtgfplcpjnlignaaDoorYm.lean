/- Ym, Yh: merged by merge.py. -/
import Derived.Test.YtgfplcpjnlignaaDoorDt
import Derived.Test.YtgfplcpjnlignaaDoorQa
import Derived.Test.YtgfplcpjnlignaaDoorChecked
import Derived.KernelRfl

/- The contracts of Go's package math over this translation. -/
namespace Go.Proofs.YtgfplcpjnlignaaDoor
open Go.Cv Go.Dv Go.RowKit

theorem follows : Tryd.prog.follows .mixedOrders = true := by kernel_rfl

theorem ok_archFloor : OkFn Tryd.prog 94 (un64 (ffloor .down)) := okFloor (name := "math.archFloor") (fun _ _ => by kernel_rfl)
end Go.Proofs.YtgfplcpjnlignaaDoor

/- The bits of a float32 (the program's). -/
namespace Go.Proofs.YtgfplcpjnlignaaDoor
open Go Go.Cv Go.Dv
end Go.Proofs.YtgfplcpjnlignaaDoor
