/- Functions that are handed an array for good and give it back, longer. -/
import Derived.Test.YtgfplcpjnlignaaDoorDs

namespace Go.Dv
open Go.RowKit Go.Cv

variable {P : Program} {Γ : CEnv}

/-- a contract that says nothing holds of whatever function -/
theorem ok_noSpec {P : Program} {f : FuncId} : OkFn P f noSpec := fun _ _ _ h => nomatch h
end Go.Dv
