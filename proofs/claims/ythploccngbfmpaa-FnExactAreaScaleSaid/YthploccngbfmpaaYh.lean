/- The bits of a float32 (the program's). -/
import Derived.Test.YthploccngbfmpaaQd
import Derived.Test.YthploccngbfmpaaYm
namespace Go.Proofs.Ythploccngbfmpaa
open Go Go.Cv Go.Dv
theorem ok_math_Float32frombits : OkFn Try.prog 86 (S_math_Float32frombits R) := okFrombits32 (fun _ _ => by kernel_rfl)
end Go.Proofs.Ythploccngbfmpaa
