/- Printed by gen2.py. -/
import Derived.Test.YtgfplcpjnlignaaDoorWkh
import Derived.Test.YtgfplcpjnlignaaDoorWkc
import Derived.Test.YtgfplcpjnlignaaDoorZkc
import Derived.Test.YtgfplcpjnlignaaDoorQa
import Derived.Test.YtgfplcpjnlignaaDoorDu
import Derived.Test.YtgfplcpjnlignaaDoorYm
import Derived.Test.YtgfplcpjnlignaaDoorYa
import Derived.Test.YtgfplcpjnlignaaDoorLo
import Derived.Test.YtgfplcpjnlignaaDoorGa
import Derived.Test.YtgfplcpjnlignaaDoorZke

set_option linter.unusedVariables false
set_option linter.unusedSimpArgs false

-- GENERATED BELOW (gen.py)
namespace Go.Proofs.YtgfplcpjnlignaaDoor
open Go Go.Cv Go.Dv
set_option maxRecDepth 100000 in
theorem e_impl_stepOf (M : FOps) (a0 : Nat) (h : r_impl_stepOf M a0 = true) : cwp M Tryd.prog (envOf [(90, S_math_Floor M)]) (lamOf []) 40 (Tryd.f82.body.getD .skip) 0 (retK Tryd.prog Tryd.f82.results.toList (.cons (.one (.int .i64)) .nil) 0) (initSt (.cons (.one (.fl .f32)) .nil) (a0, ())) = some (F_impl_stepOf (p_impl_stepOf M a0)) := 
  Eq.trans (b := (brT (M.toiOk FloatKind.f64 (c0_impl_stepOf M a0) IntKind.i64) (some (F_impl_stepOf (M.toi FloatKind.f64 (c0_impl_stepOf M a0) IntKind.i64))) none)) (by kernel_rfl)
    ((pushL (fun _ => rfl)) h)
theorem ok_impl_stepOf : OkFn Tryd.prog 82 (S_impl_stepOf R) :=
  okFn_of (good_cons ok_math_Floor good_nil) follows Tryd.func82 rfl (by decide) (by decide) lam_nil (m := 1) (fun _ => rfl) (by decide) (fun _ _ h => nomatch h) (fun _ _ h => nomatch h) (fun x hx => ⟨40, e_impl_stepOf R x.1 hx⟩)

set_option maxRecDepth 100000 in
theorem e_impl_StepsOf (M : FOps) (a0_0 : Nat) (a0_1 : Nat) (h : r_impl_StepsOf M a0_0 a0_1 = true) : cwp M Tryd.prog (envOf [(36, S_impl_ValidPlace M), (82, S_impl_stepOf M)]) (lamOf []) 40 (Tryd.f63.body.getD .skip) 0 (retK Tryd.prog Tryd.f63.results.toList (.cons (.one (.int .i64)) (.cons (.one (.int .i64)) (.cons (.one .bool) .nil))) 0) (initSt (.cons (.agg (.pair (.fl .f32) (.fl .f32))) .nil) ((a0_0, a0_1), ())) = some (F_impl_StepsOf (p_impl_StepsOf M a0_0 a0_1)) := 
  Eq.trans (b := (brT (!p_impl_ValidPlace M a0_0 a0_1) (some (F_impl_StepsOf ((0, 0, false)))) (brT (r_impl_stepOf M a0_0) (brT (r_impl_stepOf M a0_1) (brT ((c0_impl_StepsOf M a0_0 a0_1) == 8388608) (some (F_impl_StepsOf ((p_impl_stepOf M a0_0, Int.negSucc 8388607, true)))) (some (F_impl_StepsOf ((p_impl_stepOf M a0_0, (c0_impl_StepsOf M a0_0 a0_1), true))))) none) none))) (by kernel_rfl)
    ((pushR (fun _ => rfl) (pushL (pushL (fun _ => (push2 rfl rfl))))) h)
theorem ok_impl_StepsOf : OkFn Tryd.prog 63 (S_impl_StepsOf R) :=
  okFn_of (good_cons ok_impl_ValidPlace (good_cons ok_impl_stepOf good_nil)) follows Tryd.func63 rfl (by decide) (by decide) lam_nil (m := 1) (fun _ => rfl) (by decide) (fun _ _ h => nomatch h) (fun _ _ h => nomatch h) (fun x hx => ⟨40, e_impl_StepsOf R x.1.1 x.1.2 hx⟩)

set_option maxRecDepth 100000 in
theorem e_impl_PlaceOfSteps (M : FOps) (a0 : Int) (a1 : Int) : cwp M Tryd.prog (envOf [(41, S_impl_within M)]) (lamOf []) 40 (Tryd.f43.body.getD .skip) 0 (retK Tryd.prog Tryd.f43.results.toList (.cons (.agg (.pair (.fl .f32) (.fl .f32))) (.cons (.one .bool) .nil)) 0) (initSt (.cons (.one (.int .i64)) (.cons (.one (.int .i64)) .nil)) (a0, (a1, ()))) = some (F_impl_PlaceOfSteps (p_impl_PlaceOfSteps M a0 a1)) := 
  Eq.trans (b := (brT (!p_impl_within M a0 (Int.negSucc 4194303) 4194304) (some (F_impl_PlaceOfSteps ((0, 0, false)))) (brT (!p_impl_within M a1 (Int.negSucc 8388607) 8388607) (some (F_impl_PlaceOfSteps ((0, 0, false)))) (some (F_impl_PlaceOfSteps ((M.bin BinOp.quo FloatKind.f32 (M.ofi FloatKind.f32 a0) 1266679808, M.bin BinOp.quo FloatKind.f32 (M.ofi FloatKind.f32 a1) 1266679808, true))))))) (by kernel_rfl)
    ((push2 rfl (push2 rfl rfl)))
theorem ok_impl_PlaceOfSteps : OkFn Tryd.prog 43 (S_impl_PlaceOfSteps R) :=
  okFn_of (good_cons ok_impl_within good_nil) follows Tryd.func43 rfl (by decide) (by decide) lam_nil (m := 2) (fun _ => rfl) (by decide) (fun _ _ h => nomatch h) (fun _ _ h => nomatch h) (fun x _ => ⟨40, e_impl_PlaceOfSteps R x.1 x.2.1⟩)

end Go.Proofs.YtgfplcpjnlignaaDoor
