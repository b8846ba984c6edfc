/- What is known of the package-level variables: here nothing. -/
import GoSem.Claim

namespace Go.Dv
open Go
def GQ (_ : Nat → Option Obj) : Prop := True
theorem GQ_mono {m m' : Nat → Option Obj} (_ : ∀ k o, m k = some o → m' k = some o) (h : GQ m) : GQ m' := h
end Go.Dv
