/- Ym, Yh: merged by merge.py. -/
import Derived.Test.YtbgpobiaaebbeaaDoorDt
import Derived.Test.YtbgpobiaaebbeaaDoorQd
import Derived.Test.YtbgpobiaaebbeaaDoorChecked
import Derived.KernelRfl

/- The contracts of Go's package math over this translation. -/
namespace Go.Proofs.YtbgpobiaaebbeaaDoor
open Go.Cv Go.Dv Go.RowKit

theorem follows : Tryd.prog.follows .mixedOrders = true := by kernel_rfl

end Go.Proofs.YtbgpobiaaebbeaaDoor

/- The bits of a float32 (the program's). -/
namespace Go.Proofs.YtbgpobiaaebbeaaDoor
open Go Go.Cv Go.Dv
theorem ok_math_Float32frombits : OkFn Tryd.prog 136 (S_math_Float32frombits R) := okFrombits32 (fun _ _ => by kernel_rfl)
theorem ok_math_Float32bits : OkFn Tryd.prog 155 (S_math_Float32bits R) := okBits32 (fun _ _ => by kernel_rfl)
end Go.Proofs.YtbgpobiaaebbeaaDoor
