/- Printed by gen2.py. -/
import Derived.Test.YtbgpobiaaebbeaaDoorWf
import Derived.Test.YtbgpobiaaebbeaaDoorYe
import Derived.Test.YtbgpobiaaebbeaaDoorLw
import Derived.Test.YtbgpobiaaebbeaaDoorYt
import Derived.Test.YtbgpobiaaebbeaaDoorZa

set_option linter.unusedVariables false
set_option linter.unusedSimpArgs false

-- GENERATED BELOW (gen.py)
namespace Go.Proofs.YtbgpobiaaebbeaaDoor
open Go Go.Cv Go.Dv
set_option maxRecDepth 100000 in
theorem e_laws_szPlaceS (M : FOps) (a0 : (List (Nat × Nat))) (a1 : Int) : cwp M Tryd.prog (envOf []) (lamOf []) 40 (Tryd.f15.body.getD .skip) 0 (retK Tryd.prog Tryd.f15.results.toList (.cons (.one (.int .i64)) .nil) 0) (initSt (.cons (.one (.ls (.pair (.fl .f32) (.fl .f32)))) (.cons (.one (.int .i64)) .nil)) (a0, (a1, ()))) = some (F_laws_szPlaceS (p_laws_szPlaceS M a0 a1)) := 
  Eq.trans (b := (brT (decide (IntKind.i64.wrap (a1 - (↑a0.length : Int)) < 0)) (some (F_laws_szPlaceS (Int.negSucc 0))) (some (F_laws_szPlaceS (IntKind.i64.wrap (a1 - (↑a0.length : Int))))))) (by kernel_rfl)
    ((push2 rfl rfl))
theorem ok_laws_szPlaceS : OkFn Tryd.prog 15 (S_laws_szPlaceS R) :=
  okFn_of good_nil follows Tryd.func15 rfl (by decide) (by decide) lam_nil (m := 2) (fun _ => rfl) (by decide) (fun _ _ h => nomatch h) (fun _ _ h => nomatch h) (fun x _ => ⟨40, e_laws_szPlaceS R x.1 x.2.1⟩)

end Go.Proofs.YtbgpobiaaebbeaaDoor
