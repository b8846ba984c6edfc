/- Printed by gen2.py. -/
import Derived.Test.YtjohfkfpfjdceaaGreatDoorGa
import Derived.Test.YtjohfkfpfjdceaaGreatDoorLq

set_option linter.unusedVariables false
set_option linter.unusedSimpArgs false

-- GENERATED BELOW (gen.py)
namespace Go.Proofs.YtjohfkfpfjdceaaGreatDoor
open Go Go.Cv Go.Dv
set_option maxRecDepth 100000 in
theorem e_math_Sqrt (M : FOps) (a0 : Nat) : cwp M Tryz.prog (envOf [(99, un64 M.sqrt)]) (lamOf []) 40 (Tryz.f49.body.getD .skip) 0 (retK Tryz.prog Tryz.f49.results.toList (.cons (.one (.fl .f64)) .nil) 0) (initSt (.cons (.one (.fl .f64)) .nil) (a0, ())) = some (F_math_Sqrt (p_math_Sqrt M a0)) := by kernel_rfl
theorem ok_math_Sqrt : OkFn Tryz.prog 49 (S_math_Sqrt R) :=
  okFn_of (good_cons ok_sqrt good_nil) follows Tryz.func49 rfl (by decide) (by decide) lam_nil (m := 1) (fun _ => rfl) (by decide) (fun _ _ h => nomatch h) (fun _ _ h => nomatch h) (fun x _ => ⟨40, e_math_Sqrt R x.1⟩)

set_option maxRecDepth 100000 in
theorem e_impl_isFinite (M : FOps) (a0 : Nat) : cwp M Tryz.prog (envOf []) (lamOf []) 40 (Tryz.f80.body.getD .skip) 0 (retK Tryz.prog Tryz.f80.results.toList (.cons (.one .bool) .nil) 0) (initSt (.cons (.one (.fl .f64)) .nil) (a0, ())) = some (F_impl_isFinite (p_impl_isFinite M a0)) := by kernel_rfl
theorem ok_impl_isFinite : OkFn Tryz.prog 80 (S_impl_isFinite R) :=
  okFn_of good_nil follows Tryz.func80 rfl (by decide) (by decide) lam_nil (m := 1) (fun _ => rfl) (by decide) (fun _ _ h => nomatch h) (fun _ _ h => nomatch h) (fun x _ => ⟨40, e_impl_isFinite R x.1⟩)

set_option maxRecDepth 100000 in
theorem e_impl_IsFinite (M : FOps) (a0 : Nat) : cwp M Tryz.prog (envOf [(80, S_impl_isFinite M)]) (lamOf []) 40 (Tryz.f67.body.getD .skip) 0 (retK Tryz.prog Tryz.f67.results.toList (.cons (.one .bool) .nil) 0) (initSt (.cons (.one (.fl .f32)) .nil) (a0, ())) = some (F_impl_IsFinite (p_impl_IsFinite M a0)) := by kernel_rfl
theorem ok_impl_IsFinite : OkFn Tryz.prog 67 (S_impl_IsFinite R) :=
  okFn_of (good_cons ok_impl_isFinite good_nil) follows Tryz.func67 rfl (by decide) (by decide) lam_nil (m := 1) (fun _ => rfl) (by decide) (fun _ _ h => nomatch h) (fun _ _ h => nomatch h) (fun x _ => ⟨40, e_impl_IsFinite R x.1⟩)

set_option maxRecDepth 100000 in
theorem e_spec_l01Finite (M : FOps) (a0 : Nat) : cwp M Tryz.prog (envOf []) (lamOf []) 40 (Tryz.f68.body.getD .skip) 0 (retK Tryz.prog Tryz.f68.results.toList (.cons (.one .bool) .nil) 0) (initSt (.cons (.one (.fl .f32)) .nil) (a0, ())) = some (F_spec_l01Finite (p_spec_l01Finite M a0)) := by kernel_rfl
theorem ok_spec_l01Finite : OkFn Tryz.prog 68 (S_spec_l01Finite R) :=
  okFn_of good_nil follows Tryz.func68 rfl (by decide) (by decide) lam_nil (m := 1) (fun _ => rfl) (by decide) (fun _ _ h => nomatch h) (fun _ _ h => nomatch h) (fun x _ => ⟨40, e_spec_l01Finite R x.1⟩)

set_option maxRecDepth 100000 in
theorem e_spec_l01Narrow (M : FOps) (a0 : Nat) (h : r_spec_l01Narrow M a0 = true) : cwp M Tryz.prog (envOf []) (lamOf []) 40 (Tryz.f100.body.getD .skip) 0 (retK Tryz.prog Tryz.f100.results.toList (.cons (.one (.fl .f32)) .nil) 0) (initSt (.cons (.one (.fl .f64)) .nil) (a0, ())) = some (F_spec_l01Narrow (p_spec_l01Narrow M a0)) := 
  Eq.trans (b := (brT (M.narOk a0) (some (F_spec_l01Narrow (M.nar a0))) none)) (by kernel_rfl)
    ((pushL (fun _ => rfl)) h)
theorem ok_spec_l01Narrow : OkFn Tryz.prog 100 (S_spec_l01Narrow R) :=
  okFn_of good_nil follows Tryz.func100 rfl (by decide) (by decide) lam_nil (m := 1) (fun _ => rfl) (by decide) (fun _ _ h => nomatch h) (fun _ _ h => nomatch h) (fun x hx => ⟨40, e_spec_l01Narrow R x.1 hx⟩)

set_option maxRecDepth 100000 in
theorem e_spec_l01Sqrt (M : FOps) (a0 : Nat) (h : r_spec_l01Sqrt M a0 = true) : cwp M Tryz.prog (envOf [(100, S_spec_l01Narrow M), (49, S_math_Sqrt M)]) (lamOf []) 40 (Tryz.f50.body.getD .skip) 0 (retK Tryz.prog Tryz.f50.results.toList (.cons (.one (.fl .f32)) .nil) 0) (initSt (.cons (.one (.fl .f32)) .nil) (a0, ())) = some (F_spec_l01Sqrt (p_spec_l01Sqrt M a0)) := 
  Eq.trans (b := (brT (true && true && r_spec_l01Narrow M (p_math_Sqrt M (M.wid a0))) (some (F_spec_l01Sqrt (p_spec_l01Narrow M (p_math_Sqrt M (M.wid a0))))) none)) (by kernel_rfl)
    ((pushL (fun _ => rfl)) h)
theorem ok_spec_l01Sqrt : OkFn Tryz.prog 50 (S_spec_l01Sqrt R) :=
  okFn_of (good_cons ok_spec_l01Narrow (good_cons ok_math_Sqrt good_nil)) follows Tryz.func50 rfl (by decide) (by decide) lam_nil (m := 1) (fun _ => rfl) (by decide) (fun _ _ h => nomatch h) (fun _ _ h => nomatch h) (fun x _ => ⟨40, e_spec_l01Sqrt R x.1 (rr_spec_l01Sqrt x.1)⟩)

set_option maxRecDepth 100000 in
theorem e_impl_within (M : FOps) (a0 : Int) (a1 : Int) (a2 : Int) : cwp M Tryz.prog (envOf []) (lamOf []) 40 (Tryz.f60.body.getD .skip) 0 (retK Tryz.prog Tryz.f60.results.toList (.cons (.one .bool) .nil) 0) (initSt (.cons (.one (.int .i64)) (.cons (.one (.int .i64)) (.cons (.one (.int .i64)) .nil))) (a0, (a1, (a2, ())))) = some (F_impl_within (p_impl_within M a0 a1 a2)) := 
  Eq.trans (b := (brT (decide (a1 ≤ a0)) (some (F_impl_within (decide (a0 ≤ a2)))) (some (F_impl_within (false))))) (by kernel_rfl)
    ((push2 rfl rfl))
theorem ok_impl_within : OkFn Tryz.prog 60 (S_impl_within R) :=
  okFn_of good_nil follows Tryz.func60 rfl (by decide) (by decide) lam_nil (m := 3) (fun _ => rfl) (by decide) (fun _ _ h => nomatch h) (fun _ _ h => nomatch h) (fun x _ => ⟨40, e_impl_within R x.1 x.2.1 x.2.2.1⟩)

end Go.Proofs.YtjohfkfpfjdceaaGreatDoor
