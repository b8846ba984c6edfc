/- Printed by gen2.py. -/
import Derived.Test.YtgfplcpjnlignaaDoorGa
import Derived.Test.YtgfplcpjnlignaaDoorYm

set_option linter.unusedVariables false
set_option linter.unusedSimpArgs false

-- GENERATED BELOW (gen.py)
namespace Go.Proofs.YtgfplcpjnlignaaDoor
open Go Go.Cv Go.Dv
set_option maxRecDepth 100000 in
theorem e_math_Floor (M : FOps) (a0 : Nat) : cwp M Tryd.prog (envOf [(94, un64 M.floor)]) (lamOf []) 40 (Tryd.f90.body.getD .skip) 0 (retK Tryd.prog Tryd.f90.results.toList (.cons (.one (.fl .f64)) .nil) 0) (initSt (.cons (.one (.fl .f64)) .nil) (a0, ())) = some (F_math_Floor (p_math_Floor M a0)) := by kernel_rfl
theorem ok_math_Floor : OkFn Tryd.prog 90 (S_math_Floor R) :=
  okFn_of (good_cons ok_archFloor good_nil) follows Tryd.func90 rfl (by decide) (by decide) lam_nil (m := 1) (fun _ => rfl) (by decide) (fun _ _ h => nomatch h) (fun _ _ h => nomatch h) (fun x _ => ⟨40, e_math_Floor R x.1⟩)

set_option maxRecDepth 100000 in
theorem e_impl_inside (M : FOps) (a0 : Nat) (a1 : Nat) (a2 : Nat) : cwp M Tryd.prog (envOf []) (lamOf []) 40 (Tryd.f62.body.getD .skip) 0 (retK Tryd.prog Tryd.f62.results.toList (.cons (.one .bool) .nil) 0) (initSt (.cons (.one (.fl .f32)) (.cons (.one (.fl .f32)) (.cons (.one (.fl .f32)) .nil))) (a0, (a1, (a2, ())))) = some (F_impl_inside (p_impl_inside M a0 a1 a2)) := 
  Eq.trans (b := (brT (M.cmp BinOp.geq FloatKind.f32 a0 a1) (some (F_impl_inside (M.cmp BinOp.leq FloatKind.f32 a0 a2))) (some (F_impl_inside (false))))) (by kernel_rfl)
    ((push2 rfl rfl))
theorem ok_impl_inside : OkFn Tryd.prog 62 (S_impl_inside R) :=
  okFn_of good_nil follows Tryd.func62 rfl (by decide) (by decide) lam_nil (m := 3) (fun _ => rfl) (by decide) (fun _ _ h => nomatch h) (fun _ _ h => nomatch h) (fun x _ => ⟨40, e_impl_inside R x.1 x.2.1 x.2.2.1⟩)

set_option maxRecDepth 100000 in
theorem e_impl_ValidPlace (M : FOps) (a0_0 : Nat) (a0_1 : Nat) : cwp M Tryd.prog (envOf [(62, S_impl_inside M)]) (lamOf []) 40 (Tryd.f36.body.getD .skip) 0 (retK Tryd.prog Tryd.f36.results.toList (.cons (.one .bool) .nil) 0) (initSt (.cons (.agg (.pair (.fl .f32) (.fl .f32))) .nil) ((a0_0, a0_1), ())) = some (F_impl_ValidPlace (p_impl_ValidPlace M a0_0 a0_1)) := 
  Eq.trans (b := (brT (p_impl_inside M a0_0 3196059648 1048576000) (brT (M.cmp BinOp.geq FloatKind.f32 a0_1 3204448256) (some (F_impl_ValidPlace (M.cmp BinOp.lss FloatKind.f32 a0_1 1056964608))) (some (F_impl_ValidPlace (false)))) (some (F_impl_ValidPlace (false))))) (by kernel_rfl)
    ((push2 (push2 rfl rfl) rfl))
theorem ok_impl_ValidPlace : OkFn Tryd.prog 36 (S_impl_ValidPlace R) :=
  okFn_of (good_cons ok_impl_inside good_nil) follows Tryd.func36 rfl (by decide) (by decide) lam_nil (m := 1) (fun _ => rfl) (by decide) (fun _ _ h => nomatch h) (fun _ _ h => nomatch h) (fun x _ => ⟨40, e_impl_ValidPlace R x.1.1 x.1.2⟩)

set_option maxRecDepth 100000 in
theorem e_impl_within (M : FOps) (a0 : Int) (a1 : Int) (a2 : Int) : cwp M Tryd.prog (envOf []) (lamOf []) 40 (Tryd.f41.body.getD .skip) 0 (retK Tryd.prog Tryd.f41.results.toList (.cons (.one .bool) .nil) 0) (initSt (.cons (.one (.int .i64)) (.cons (.one (.int .i64)) (.cons (.one (.int .i64)) .nil))) (a0, (a1, (a2, ())))) = some (F_impl_within (p_impl_within M a0 a1 a2)) := 
  Eq.trans (b := (brT (decide (a1 ≤ a0)) (some (F_impl_within (decide (a0 ≤ a2)))) (some (F_impl_within (false))))) (by kernel_rfl)
    ((push2 rfl rfl))
theorem ok_impl_within : OkFn Tryd.prog 41 (S_impl_within R) :=
  okFn_of good_nil follows Tryd.func41 rfl (by decide) (by decide) lam_nil (m := 3) (fun _ => rfl) (by decide) (fun _ _ h => nomatch h) (fun _ _ h => nomatch h) (fun x _ => ⟨40, e_impl_within R x.1 x.2.1 x.2.2.1⟩)

end Go.Proofs.YtgfplcpjnlignaaDoor
