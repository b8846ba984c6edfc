/- Printed by gen2.py. -/
import Derived.Test.YthploccngbfmpaaWt
import Derived.Test.YthploccngbfmpaaYa
set_option linter.unusedVariables false
set_option linter.unusedSimpArgs false

-- GENERATED BELOW (gen.py)
namespace Go.Proofs.Ythploccngbfmpaa
open Go Go.Cv Go.Dv
end Go.Proofs.Ythploccngbfmpaa
