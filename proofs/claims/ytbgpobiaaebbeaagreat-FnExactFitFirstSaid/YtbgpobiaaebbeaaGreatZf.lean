/- Printed by gen2.py. -/
import Derived.Test.YtbgpobiaaebbeaaGreatWf
import Derived.Test.YtbgpobiaaebbeaaGreatYc
import Derived.Test.YtbgpobiaaebbeaaGreatYt
import Derived.Test.YtbgpobiaaebbeaaGreatZa
set_option linter.unusedVariables false
set_option linter.unusedSimpArgs false

-- GENERATED BELOW (gen.py)
namespace Go.Proofs.YtbgpobiaaebbeaaGreat
open Go Go.Cv Go.Dv
set_option maxRecDepth 100000 in
theorem e_laws_szPlaceS (M : FOps) (a0 : (List (Nat × Nat))) (a1 : Int) : cwp M Tryz.prog (envOf []) (lamOf []) 40 (Tryz.f16.body.getD .skip) 0 (retK Tryz.prog Tryz.f16.results.toList (.cons (.one (.int .i64)) .nil) 0) (initSt (.cons (.one (.ls (.pair (.fl .f32) (.fl .f32)))) (.cons (.one (.int .i64)) .nil)) (a0, (a1, ()))) = some (F_laws_szPlaceS (p_laws_szPlaceS M a0 a1)) := 
  Eq.trans (b := (brT (decide (IntKind.i64.wrap (a1 - (↑a0.length : Int)) < 0)) (some (F_laws_szPlaceS (Int.negSucc 0))) (some (F_laws_szPlaceS (IntKind.i64.wrap (a1 - (↑a0.length : Int))))))) (by kernel_rfl)
    ((push2 rfl rfl))
theorem ok_laws_szPlaceS : OkFn Tryz.prog 16 (S_laws_szPlaceS R) :=
  okFn_of good_nil follows Tryz.func16 rfl (by decide) (by decide) lam_nil (m := 2) (fun _ => rfl) (by decide) (fun _ _ h => nomatch h) (fun _ _ h => nomatch h) (fun x _ => ⟨40, e_laws_szPlaceS R x.1 x.2.1⟩)

end Go.Proofs.YtbgpobiaaebbeaaGreat
