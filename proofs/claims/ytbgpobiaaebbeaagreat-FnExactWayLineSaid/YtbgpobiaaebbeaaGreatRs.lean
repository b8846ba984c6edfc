/- What every row of this translation asks of the program. -/
import Derived.Test.YtbgpobiaaebbeaaGreatRows
import Derived.KernelRfl
namespace Go.Proofs.YtbgpobiaaebbeaaGreat
open Go

theorem sh_heard : Tryz.pinned.checked.prog.stopsHeard = true := by kernel_rfl
theorem sh_enter : Tryz.pinned.checked.prog.mayEnter = true := by kernel_rfl
theorem sh_lift0 : (Rows.fnExactEastLineRow.lifted == Tryz.pinned.checked.prog.liftsFinal) = true := by kernel_rfl
theorem sh_lift (b : Bool) (h : b = Rows.fnExactEastLineRow.lifted) : (b == Tryz.pinned.checked.prog.liftsFinal) = true := by rw [h]; exact sh_lift0
end Go.Proofs.YtbgpobiaaebbeaaGreat
