/- Printed by gen2.py. -/
import Derived.Test.YtjohfkfpfjdceaaGreatDoorGa
import Derived.Test.YtjohfkfpfjdceaaGreatDoorYq

set_option linter.unusedVariables false
set_option linter.unusedSimpArgs false

-- GENERATED BELOW (gen.py)
namespace Go.Proofs.YtjohfkfpfjdceaaGreatDoor
open Go Go.Cv Go.Dv
set_option maxRecDepth 100000 in
theorem e_math_NaN (M : FOps) : cwp M Tryz.prog (envOf [(106, sFrombits)]) (lamOf []) 40 (Tryz.f79.body.getD .skip) 0 (retK Tryz.prog Tryz.f79.results.toList (.cons (.one (.fl .f64)) .nil) 0) (initSt .nil ()) = some (F_math_NaN (p_math_NaN M)) := by kernel_rfl
theorem ok_math_NaN : OkFn Tryz.prog 79 (S_math_NaN R) :=
  okFn_of (good_cons ok_frombits good_nil) follows Tryz.func79 rfl (by decide) (by decide) lam_nil (m := 0) (fun _ => rfl) (by decide) (fun _ _ h => nomatch h) (fun _ _ h => nomatch h) (fun x _ => ⟨40, e_math_NaN R⟩)

set_option maxRecDepth 100000 in
theorem e_math_Sqrt (M : FOps) (a0 : Nat) : cwp M Tryz.prog (envOf [(99, un64 M.sqrt)]) (lamOf []) 40 (Tryz.f49.body.getD .skip) 0 (retK Tryz.prog Tryz.f49.results.toList (.cons (.one (.fl .f64)) .nil) 0) (initSt (.cons (.one (.fl .f64)) .nil) (a0, ())) = some (F_math_Sqrt (p_math_Sqrt M a0)) := by kernel_rfl
theorem ok_math_Sqrt : OkFn Tryz.prog 49 (S_math_Sqrt R) :=
  okFn_of (good_cons ok_sqrt good_nil) follows Tryz.func49 rfl (by decide) (by decide) lam_nil (m := 1) (fun _ => rfl) (by decide) (fun _ _ h => nomatch h) (fun _ _ h => nomatch h) (fun x _ => ⟨40, e_math_Sqrt R x.1⟩)

set_option maxRecDepth 100000 in
theorem e_math_Trunc (M : FOps) (a0 : Nat) : cwp M Tryz.prog (envOf [(173, un64 M.trunc)]) (lamOf []) 40 (Tryz.f136.body.getD .skip) 0 (retK Tryz.prog Tryz.f136.results.toList (.cons (.one (.fl .f64)) .nil) 0) (initSt (.cons (.one (.fl .f64)) .nil) (a0, ())) = some (F_math_Trunc (p_math_Trunc M a0)) := by kernel_rfl
theorem ok_math_Trunc : OkFn Tryz.prog 136 (S_math_Trunc R) :=
  okFn_of (good_cons ok_archTrunc good_nil) follows Tryz.func136 rfl (by decide) (by decide) lam_nil (m := 1) (fun _ => rfl) (by decide) (fun _ _ h => nomatch h) (fun _ _ h => nomatch h) (fun x _ => ⟨40, e_math_Trunc R x.1⟩)

set_option maxRecDepth 100000 in
theorem e_impl_isFinite (M : FOps) (a0 : Nat) : cwp M Tryz.prog (envOf []) (lamOf []) 40 (Tryz.f80.body.getD .skip) 0 (retK Tryz.prog Tryz.f80.results.toList (.cons (.one .bool) .nil) 0) (initSt (.cons (.one (.fl .f64)) .nil) (a0, ())) = some (F_impl_isFinite (p_impl_isFinite M a0)) := by kernel_rfl
theorem ok_impl_isFinite : OkFn Tryz.prog 80 (S_impl_isFinite R) :=
  okFn_of good_nil follows Tryz.func80 rfl (by decide) (by decide) lam_nil (m := 1) (fun _ => rfl) (by decide) (fun _ _ h => nomatch h) (fun _ _ h => nomatch h) (fun x _ => ⟨40, e_impl_isFinite R x.1⟩)

set_option maxRecDepth 100000 in
theorem e_impl_IsFinite (M : FOps) (a0 : Nat) : cwp M Tryz.prog (envOf [(80, S_impl_isFinite M)]) (lamOf []) 40 (Tryz.f67.body.getD .skip) 0 (retK Tryz.prog Tryz.f67.results.toList (.cons (.one .bool) .nil) 0) (initSt (.cons (.one (.fl .f32)) .nil) (a0, ())) = some (F_impl_IsFinite (p_impl_IsFinite M a0)) := by kernel_rfl
theorem ok_impl_IsFinite : OkFn Tryz.prog 67 (S_impl_IsFinite R) :=
  okFn_of (good_cons ok_impl_isFinite good_nil) follows Tryz.func67 rfl (by decide) (by decide) lam_nil (m := 1) (fun _ => rfl) (by decide) (fun _ _ h => nomatch h) (fun _ _ h => nomatch h) (fun x _ => ⟨40, e_impl_IsFinite R x.1⟩)

set_option maxRecDepth 100000 in
theorem e_impl_fraction (M : FOps) (a0 : Nat) : cwp M Tryz.prog (envOf [(136, S_math_Trunc M)]) (lamOf []) 40 (Tryz.f111.body.getD .skip) 0 (retK Tryz.prog Tryz.f111.results.toList (.cons (.one (.fl .f64)) .nil) 0) (initSt (.cons (.one (.fl .f64)) .nil) (a0, ())) = some (F_impl_fraction (p_impl_fraction M a0)) := 
  Eq.trans (b := (brT (M.cmp BinOp.eql FloatKind.f64 (p_math_Trunc M a0) 0) (brT (M.cmp BinOp.lss FloatKind.f64 (M.bin BinOp.sub FloatKind.f64 a0 0) 0) (some (F_impl_fraction (M.bin BinOp.add FloatKind.f64 (M.bin BinOp.sub FloatKind.f64 a0 0) 4607182418800017408))) (some (F_impl_fraction (M.bin BinOp.sub FloatKind.f64 a0 0)))) (brT (M.cmp BinOp.lss FloatKind.f64 (M.bin BinOp.sub FloatKind.f64 a0 (p_math_Trunc M a0)) 0) (some (F_impl_fraction (M.bin BinOp.add FloatKind.f64 (M.bin BinOp.sub FloatKind.f64 a0 (p_math_Trunc M a0)) 4607182418800017408))) (some (F_impl_fraction (M.bin BinOp.sub FloatKind.f64 a0 (p_math_Trunc M a0))))))) (by kernel_rfl)
    ((push2 (push2 rfl rfl) (push2 rfl rfl)))
theorem ok_impl_fraction : OkFn Tryz.prog 111 (S_impl_fraction R) :=
  okFn_of (good_cons ok_math_Trunc good_nil) follows Tryz.func111 rfl (by decide) (by decide) lam_nil (m := 1) (fun _ => rfl) (by decide) (fun _ _ h => nomatch h) (fun _ _ h => nomatch h) (fun x _ => ⟨40, e_impl_fraction R x.1⟩)

set_option maxRecDepth 100000 in
theorem e_impl_within (M : FOps) (a0 : Int) (a1 : Int) (a2 : Int) : cwp M Tryz.prog (envOf []) (lamOf []) 40 (Tryz.f60.body.getD .skip) 0 (retK Tryz.prog Tryz.f60.results.toList (.cons (.one .bool) .nil) 0) (initSt (.cons (.one (.int .i64)) (.cons (.one (.int .i64)) (.cons (.one (.int .i64)) .nil))) (a0, (a1, (a2, ())))) = some (F_impl_within (p_impl_within M a0 a1 a2)) := 
  Eq.trans (b := (brT (decide (a1 ≤ a0)) (some (F_impl_within (decide (a0 ≤ a2)))) (some (F_impl_within (false))))) (by kernel_rfl)
    ((push2 rfl rfl))
theorem ok_impl_within : OkFn Tryz.prog 60 (S_impl_within R) :=
  okFn_of good_nil follows Tryz.func60 rfl (by decide) (by decide) lam_nil (m := 3) (fun _ => rfl) (by decide) (fun _ _ h => nomatch h) (fun _ _ h => nomatch h) (fun x _ => ⟨40, e_impl_within R x.1 x.2.1 x.2.2.1⟩)

end Go.Proofs.YtjohfkfpfjdceaaGreatDoor
