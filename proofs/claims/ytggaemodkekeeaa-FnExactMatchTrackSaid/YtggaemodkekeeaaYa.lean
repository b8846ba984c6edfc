/- Printed by gen2.py. -/
import Derived.Test.YtggaemodkekeeaaGa
import Derived.Test.YtggaemodkekeeaaYm

set_option linter.unusedVariables false
set_option linter.unusedSimpArgs false

-- GENERATED BELOW (gen.py)
namespace Go.Proofs.Ytggaemodkekeeaa
open Go Go.Cv Go.Dv
set_option maxRecDepth 100000 in
theorem e_math_NaN (M : FOps) : cwp M Try.prog (envOf [(109, sFrombits)]) (lamOf []) 40 (Try.f99.body.getD .skip) 0 (retK Try.prog Try.f99.results.toList (.cons (.one (.fl .f64)) .nil) 0) (initSt .nil ()) = some (F_math_NaN (p_math_NaN M)) := by kernel_rfl
theorem ok_math_NaN : OkFn Try.prog 99 (S_math_NaN R) :=
  okFn_of (good_cons ok_frombits good_nil) follows Try.func99 rfl (by decide) (by decide) lam_nil (m := 0) (fun _ => rfl) (by decide) (fun _ _ h => nomatch h) (fun _ _ h => nomatch h) (fun x _ => ⟨40, e_math_NaN R⟩)

set_option maxRecDepth 100000 in
theorem e_math_Floor (M : FOps) (a0 : Nat) : cwp M Try.prog (envOf [(70, un64 M.floor)]) (lamOf []) 40 (Try.f51.body.getD .skip) 0 (retK Try.prog Try.f51.results.toList (.cons (.one (.fl .f64)) .nil) 0) (initSt (.cons (.one (.fl .f64)) .nil) (a0, ())) = some (F_math_Floor (p_math_Floor M a0)) := by kernel_rfl
theorem ok_math_Floor : OkFn Try.prog 51 (S_math_Floor R) :=
  okFn_of (good_cons ok_archFloor good_nil) follows Try.func51 rfl (by decide) (by decide) lam_nil (m := 1) (fun _ => rfl) (by decide) (fun _ _ h => nomatch h) (fun _ _ h => nomatch h) (fun x _ => ⟨40, e_math_Floor R x.1⟩)

set_option maxRecDepth 100000 in
theorem e_math_Sqrt (M : FOps) (a0 : Nat) : cwp M Try.prog (envOf [(111, un64 M.sqrt)]) (lamOf []) 40 (Try.f101.body.getD .skip) 0 (retK Try.prog Try.f101.results.toList (.cons (.one (.fl .f64)) .nil) 0) (initSt (.cons (.one (.fl .f64)) .nil) (a0, ())) = some (F_math_Sqrt (p_math_Sqrt M a0)) := by kernel_rfl
theorem ok_math_Sqrt : OkFn Try.prog 101 (S_math_Sqrt R) :=
  okFn_of (good_cons ok_sqrt good_nil) follows Try.func101 rfl (by decide) (by decide) lam_nil (m := 1) (fun _ => rfl) (by decide) (fun _ _ h => nomatch h) (fun _ _ h => nomatch h) (fun x _ => ⟨40, e_math_Sqrt R x.1⟩)

set_option maxRecDepth 100000 in
theorem e_math_Trunc (M : FOps) (a0 : Nat) : cwp M Try.prog (envOf [(112, un64 M.trunc)]) (lamOf []) 40 (Try.f104.body.getD .skip) 0 (retK Try.prog Try.f104.results.toList (.cons (.one (.fl .f64)) .nil) 0) (initSt (.cons (.one (.fl .f64)) .nil) (a0, ())) = some (F_math_Trunc (p_math_Trunc M a0)) := by kernel_rfl
theorem ok_math_Trunc : OkFn Try.prog 104 (S_math_Trunc R) :=
  okFn_of (good_cons ok_archTrunc good_nil) follows Try.func104 rfl (by decide) (by decide) lam_nil (m := 1) (fun _ => rfl) (by decide) (fun _ _ h => nomatch h) (fun _ _ h => nomatch h) (fun x _ => ⟨40, e_math_Trunc R x.1⟩)

set_option maxRecDepth 100000 in
theorem e_impl_isFinite (M : FOps) (a0 : Nat) : cwp M Try.prog (envOf []) (lamOf []) 40 (Try.f106.body.getD .skip) 0 (retK Try.prog Try.f106.results.toList (.cons (.one .bool) .nil) 0) (initSt (.cons (.one (.fl .f64)) .nil) (a0, ())) = some (F_impl_isFinite (p_impl_isFinite M a0)) := by kernel_rfl
theorem ok_impl_isFinite : OkFn Try.prog 106 (S_impl_isFinite R) :=
  okFn_of good_nil follows Try.func106 rfl (by decide) (by decide) lam_nil (m := 1) (fun _ => rfl) (by decide) (fun _ _ h => nomatch h) (fun _ _ h => nomatch h) (fun x _ => ⟨40, e_impl_isFinite R x.1⟩)

set_option maxRecDepth 100000 in
theorem e_impl_IsFinite (M : FOps) (a0 : Nat) : cwp M Try.prog (envOf [(106, S_impl_isFinite M)]) (lamOf []) 40 (Try.f108.body.getD .skip) 0 (retK Try.prog Try.f108.results.toList (.cons (.one .bool) .nil) 0) (initSt (.cons (.one (.fl .f32)) .nil) (a0, ())) = some (F_impl_IsFinite (p_impl_IsFinite M a0)) := by kernel_rfl
theorem ok_impl_IsFinite : OkFn Try.prog 108 (S_impl_IsFinite R) :=
  okFn_of (good_cons ok_impl_isFinite good_nil) follows Try.func108 rfl (by decide) (by decide) lam_nil (m := 1) (fun _ => rfl) (by decide) (fun _ _ h => nomatch h) (fun _ _ h => nomatch h) (fun x _ => ⟨40, e_impl_IsFinite R x.1⟩)

set_option maxRecDepth 100000 in
theorem e_impl_fraction (M : FOps) (a0 : Nat) : cwp M Try.prog (envOf [(104, S_math_Trunc M)]) (lamOf []) 40 (Try.f114.body.getD .skip) 0 (retK Try.prog Try.f114.results.toList (.cons (.one (.fl .f64)) .nil) 0) (initSt (.cons (.one (.fl .f64)) .nil) (a0, ())) = some (F_impl_fraction (p_impl_fraction M a0)) := 
  Eq.trans (b := (brT (M.cmp BinOp.eql FloatKind.f64 (p_math_Trunc M a0) 0) (brT (M.cmp BinOp.lss FloatKind.f64 (M.bin BinOp.sub FloatKind.f64 a0 0) 0) (some (F_impl_fraction (M.bin BinOp.add FloatKind.f64 (M.bin BinOp.sub FloatKind.f64 a0 0) 4607182418800017408))) (some (F_impl_fraction (M.bin BinOp.sub FloatKind.f64 a0 0)))) (brT (M.cmp BinOp.lss FloatKind.f64 (M.bin BinOp.sub FloatKind.f64 a0 (p_math_Trunc M a0)) 0) (some (F_impl_fraction (M.bin BinOp.add FloatKind.f64 (M.bin BinOp.sub FloatKind.f64 a0 (p_math_Trunc M a0)) 4607182418800017408))) (some (F_impl_fraction (M.bin BinOp.sub FloatKind.f64 a0 (p_math_Trunc M a0))))))) (by kernel_rfl)
    ((push2 (push2 rfl rfl) (push2 rfl rfl)))
theorem ok_impl_fraction : OkFn Try.prog 114 (S_impl_fraction R) :=
  okFn_of (good_cons ok_math_Trunc good_nil) follows Try.func114 rfl (by decide) (by decide) lam_nil (m := 1) (fun _ => rfl) (by decide) (fun _ _ h => nomatch h) (fun _ _ h => nomatch h) (fun x _ => ⟨40, e_impl_fraction R x.1⟩)

set_option maxRecDepth 100000 in
theorem e_impl_floor (M : FOps) (a0 : Nat) (h : r_impl_floor M a0 = true) : cwp M Try.prog (envOf [(51, S_math_Floor M)]) (lamOf []) 40 (Try.f58.body.getD .skip) 0 (retK Try.prog Try.f58.results.toList (.cons (.one (.fl .f32)) .nil) 0) (initSt (.cons (.one (.fl .f32)) .nil) (a0, ())) = some (F_impl_floor (p_impl_floor M a0)) := 
  Eq.trans (b := (brT (M.narOk (p_math_Floor M (M.wid a0))) (some (F_impl_floor (M.nar (p_math_Floor M (M.wid a0))))) none)) (by kernel_rfl)
    ((pushL (fun _ => rfl)) h)
theorem ok_impl_floor : OkFn Try.prog 58 (S_impl_floor R) :=
  okFn_of (good_cons ok_math_Floor good_nil) follows Try.func58 rfl (by decide) (by decide) lam_nil (m := 1) (fun _ => rfl) (by decide) (fun _ _ h => nomatch h) (fun _ _ h => nomatch h) (fun x _ => ⟨40, e_impl_floor R x.1 (rr_impl_floor x.1)⟩)

set_option maxRecDepth 100000 in
theorem e_impl_RootNumber (M : FOps) (a0 : Nat) (h : r_impl_RootNumber M a0 = true) : cwp M Try.prog (envOf [(101, S_math_Sqrt M)]) (lamOf []) 40 (Try.f102.body.getD .skip) 0 (retK Try.prog Try.f102.results.toList (.cons (.one (.fl .f32)) .nil) 0) (initSt (.cons (.one (.fl .f32)) .nil) (a0, ())) = some (F_impl_RootNumber (p_impl_RootNumber M a0)) := 
  Eq.trans (b := (brT (M.narOk (p_math_Sqrt M (M.wid a0))) (some (F_impl_RootNumber (M.nar (p_math_Sqrt M (M.wid a0))))) none)) (by kernel_rfl)
    ((pushL (fun _ => rfl)) h)
theorem ok_impl_RootNumber : OkFn Try.prog 102 (S_impl_RootNumber R) :=
  okFn_of (good_cons ok_math_Sqrt good_nil) follows Try.func102 rfl (by decide) (by decide) lam_nil (m := 1) (fun _ => rfl) (by decide) (fun _ _ h => nomatch h) (fun _ _ h => nomatch h) (fun x _ => ⟨40, e_impl_RootNumber R x.1 (rr_impl_RootNumber x.1)⟩)

set_option maxRecDepth 100000 in
theorem e_spec_l01Narrow (M : FOps) (a0 : Nat) (h : r_spec_l01Narrow M a0 = true) : cwp M Try.prog (envOf []) (lamOf []) 40 (Try.f85.body.getD .skip) 0 (retK Try.prog Try.f85.results.toList (.cons (.one (.fl .f32)) .nil) 0) (initSt (.cons (.one (.fl .f64)) .nil) (a0, ())) = some (F_spec_l01Narrow (p_spec_l01Narrow M a0)) := 
  Eq.trans (b := (brT (M.narOk a0) (some (F_spec_l01Narrow (M.nar a0))) none)) (by kernel_rfl)
    ((pushL (fun _ => rfl)) h)
theorem ok_spec_l01Narrow : OkFn Try.prog 85 (S_spec_l01Narrow R) :=
  okFn_of good_nil follows Try.func85 rfl (by decide) (by decide) lam_nil (m := 1) (fun _ => rfl) (by decide) (fun _ _ h => nomatch h) (fun _ _ h => nomatch h) (fun x hx => ⟨40, e_spec_l01Narrow R x.1 hx⟩)

set_option maxRecDepth 100000 in
theorem e_spec_l01Sqrt (M : FOps) (a0 : Nat) (h : r_spec_l01Sqrt M a0 = true) : cwp M Try.prog (envOf [(85, S_spec_l01Narrow M), (101, S_math_Sqrt M)]) (lamOf []) 40 (Try.f87.body.getD .skip) 0 (retK Try.prog Try.f87.results.toList (.cons (.one (.fl .f32)) .nil) 0) (initSt (.cons (.one (.fl .f32)) .nil) (a0, ())) = some (F_spec_l01Sqrt (p_spec_l01Sqrt M a0)) := 
  Eq.trans (b := (brT (true && true && r_spec_l01Narrow M (p_math_Sqrt M (M.wid a0))) (some (F_spec_l01Sqrt (p_spec_l01Narrow M (p_math_Sqrt M (M.wid a0))))) none)) (by kernel_rfl)
    ((pushL (fun _ => rfl)) h)
theorem ok_spec_l01Sqrt : OkFn Try.prog 87 (S_spec_l01Sqrt R) :=
  okFn_of (good_cons ok_spec_l01Narrow (good_cons ok_math_Sqrt good_nil)) follows Try.func87 rfl (by decide) (by decide) lam_nil (m := 1) (fun _ => rfl) (by decide) (fun _ _ h => nomatch h) (fun _ _ h => nomatch h) (fun x _ => ⟨40, e_spec_l01Sqrt R x.1 (rr_spec_l01Sqrt x.1)⟩)

set_option maxRecDepth 100000 in
theorem e_impl_inside (M : FOps) (a0 : Nat) (a1 : Nat) (a2 : Nat) : cwp M Try.prog (envOf []) (lamOf []) 40 (Try.f93.body.getD .skip) 0 (retK Try.prog Try.f93.results.toList (.cons (.one .bool) .nil) 0) (initSt (.cons (.one (.fl .f32)) (.cons (.one (.fl .f32)) (.cons (.one (.fl .f32)) .nil))) (a0, (a1, (a2, ())))) = some (F_impl_inside (p_impl_inside M a0 a1 a2)) := 
  Eq.trans (b := (brT (M.cmp BinOp.geq FloatKind.f32 a0 a1) (some (F_impl_inside (M.cmp BinOp.leq FloatKind.f32 a0 a2))) (some (F_impl_inside (false))))) (by kernel_rfl)
    ((push2 rfl rfl))
theorem ok_impl_inside : OkFn Try.prog 93 (S_impl_inside R) :=
  okFn_of good_nil follows Try.func93 rfl (by decide) (by decide) lam_nil (m := 3) (fun _ => rfl) (by decide) (fun _ _ h => nomatch h) (fun _ _ h => nomatch h) (fun x _ => ⟨40, e_impl_inside R x.1 x.2.1 x.2.2.1⟩)

set_option maxRecDepth 100000 in
theorem e_impl_ValidPlace (M : FOps) (a0_0 : Nat) (a0_1 : Nat) : cwp M Try.prog (envOf [(93, S_impl_inside M)]) (lamOf []) 40 (Try.f76.body.getD .skip) 0 (retK Try.prog Try.f76.results.toList (.cons (.one .bool) .nil) 0) (initSt (.cons (.agg (.pair (.fl .f32) (.fl .f32))) .nil) ((a0_0, a0_1), ())) = some (F_impl_ValidPlace (p_impl_ValidPlace M a0_0 a0_1)) := 
  Eq.trans (b := (brT (p_impl_inside M a0_0 3196059648 1048576000) (brT (M.cmp BinOp.geq FloatKind.f32 a0_1 3204448256) (some (F_impl_ValidPlace (M.cmp BinOp.lss FloatKind.f32 a0_1 1056964608))) (some (F_impl_ValidPlace (false)))) (some (F_impl_ValidPlace (false))))) (by kernel_rfl)
    ((push2 (push2 rfl rfl) rfl))
theorem ok_impl_ValidPlace : OkFn Try.prog 76 (S_impl_ValidPlace R) :=
  okFn_of (good_cons ok_impl_inside good_nil) follows Try.func76 rfl (by decide) (by decide) lam_nil (m := 1) (fun _ => rfl) (by decide) (fun _ _ h => nomatch h) (fun _ _ h => nomatch h) (fun x _ => ⟨40, e_impl_ValidPlace R x.1.1 x.1.2⟩)

set_option maxRecDepth 100000 in
theorem e_spec_l02Is (M : FOps) (a0_0 : Nat) (a0_1 : Nat) : cwp M Try.prog (envOf []) (lamOf []) 40 (Try.f50.body.getD .skip) 0 (retK Try.prog Try.f50.results.toList (.cons (.one .bool) .nil) 0) (initSt (.cons (.ptr (.pair (.fl .f32) (.fl .f32))) .nil) ((a0_0, a0_1), ())) = some (F_spec_l02Is (p_spec_l02Is M a0_0 a0_1)) := 
  Eq.trans (b := (brT (M.cmp BinOp.geq FloatKind.f32 a0_0 3196059648) (brT (M.cmp BinOp.leq FloatKind.f32 a0_0 1048576000) (brT (M.cmp BinOp.geq FloatKind.f32 a0_1 3204448256) (some (F_spec_l02Is (M.cmp BinOp.lss FloatKind.f32 a0_1 1056964608))) (some (F_spec_l02Is (false)))) (some (F_spec_l02Is (false)))) (some (F_spec_l02Is (false))))) (by kernel_rfl)
    ((push2 (push2 (push2 rfl rfl) rfl) rfl))
theorem ok_spec_l02Is : OkFn Try.prog 50 (S_spec_l02Is R) :=
  okFn_of good_nil follows Try.func50 rfl (by decide) (by decide) lam_nil (m := 1) (fun _ => rfl) (by decide) (fun _ _ h => nomatch h) (fun _ _ h => nomatch h) (fun x _ => ⟨40, e_spec_l02Is R x.1.1 x.1.2⟩)

set_option maxRecDepth 100000 in
theorem e_impl_within (M : FOps) (a0 : Int) (a1 : Int) (a2 : Int) : cwp M Try.prog (envOf []) (lamOf []) 40 (Try.f35.body.getD .skip) 0 (retK Try.prog Try.f35.results.toList (.cons (.one .bool) .nil) 0) (initSt (.cons (.one (.int .i64)) (.cons (.one (.int .i64)) (.cons (.one (.int .i64)) .nil))) (a0, (a1, (a2, ())))) = some (F_impl_within (p_impl_within M a0 a1 a2)) := 
  Eq.trans (b := (brT (decide (a1 ≤ a0)) (some (F_impl_within (decide (a0 ≤ a2)))) (some (F_impl_within (false))))) (by kernel_rfl)
    ((push2 rfl rfl))
theorem ok_impl_within : OkFn Try.prog 35 (S_impl_within R) :=
  okFn_of good_nil follows Try.func35 rfl (by decide) (by decide) lam_nil (m := 3) (fun _ => rfl) (by decide) (fun _ _ h => nomatch h) (fun _ _ h => nomatch h) (fun x _ => ⟨40, e_impl_within R x.1 x.2.1 x.2.2.1⟩)

set_option maxRecDepth 100000 in
theorem e_impl_dotOf (M : FOps) (a0_0 : Nat) (a0_1 : Nat) (a0_2 : Nat) (a1_0 : Nat) (a1_1 : Nat) (a1_2 : Nat) : cwp M Try.prog (envOf []) (lamOf []) 40 (Try.f82.body.getD .skip) 0 (retK Try.prog Try.f82.results.toList (.cons (.one (.fl .f32)) .nil) 0) (initSt (.cons (.agg (.pair (.fl .f32) (.pair (.fl .f32) (.fl .f32)))) (.cons (.agg (.pair (.fl .f32) (.pair (.fl .f32) (.fl .f32)))) .nil)) ((a0_0, (a0_1, a0_2)), ((a1_0, (a1_1, a1_2)), ()))) = some (F_impl_dotOf (p_impl_dotOf M a0_0 a0_1 a0_2 a1_0 a1_1 a1_2)) := by kernel_rfl
theorem ok_impl_dotOf : OkFn Try.prog 82 (S_impl_dotOf R) :=
  okFn_of good_nil follows Try.func82 rfl (by decide) (by decide) lam_nil (m := 2) (fun _ => rfl) (by decide) (fun _ _ h => nomatch h) (fun _ _ h => nomatch h) (fun x _ => ⟨40, e_impl_dotOf R x.1.1 x.1.2.1 x.1.2.2 x.2.1.1 x.2.1.2.1 x.2.1.2.2⟩)

set_option maxRecDepth 100000 in
theorem e_spec_l02Dot (M : FOps) (a0_0 : Nat) (a0_1 : Nat) (a0_2 : Nat) (a1_0 : Nat) (a1_1 : Nat) (a1_2 : Nat) : cwp M Try.prog (envOf []) (lamOf []) 40 (Try.f69.body.getD .skip) 0 (retK Try.prog Try.f69.results.toList (.cons (.one (.fl .f32)) .nil) 0) (initSt (.cons (.agg (.pair (.fl .f32) (.pair (.fl .f32) (.fl .f32)))) (.cons (.agg (.pair (.fl .f32) (.pair (.fl .f32) (.fl .f32)))) .nil)) ((a0_0, (a0_1, a0_2)), ((a1_0, (a1_1, a1_2)), ()))) = some (F_spec_l02Dot (p_spec_l02Dot M a0_0 a0_1 a0_2 a1_0 a1_1 a1_2)) := by kernel_rfl
theorem ok_spec_l02Dot : OkFn Try.prog 69 (S_spec_l02Dot R) :=
  okFn_of good_nil follows Try.func69 rfl (by decide) (by decide) lam_nil (m := 2) (fun _ => rfl) (by decide) (fun _ _ h => nomatch h) (fun _ _ h => nomatch h) (fun x _ => ⟨40, e_spec_l02Dot R x.1.1 x.1.2.1 x.1.2.2 x.2.1.1 x.2.1.2.1 x.2.1.2.2⟩)

set_option maxRecDepth 100000 in
theorem e_impl_cross (M : FOps) (a0_0 : Nat) (a0_1 : Nat) (a0_2 : Nat) (a1_0 : Nat) (a1_1 : Nat) (a1_2 : Nat) : cwp M Try.prog (envOf []) (lamOf []) 40 (Try.f80.body.getD .skip) 0 (retK Try.prog Try.f80.results.toList (.cons (.agg (.pair (.fl .f32) (.pair (.fl .f32) (.fl .f32)))) .nil) 0) (initSt (.cons (.agg (.pair (.fl .f32) (.pair (.fl .f32) (.fl .f32)))) (.cons (.agg (.pair (.fl .f32) (.pair (.fl .f32) (.fl .f32)))) .nil)) ((a0_0, (a0_1, a0_2)), ((a1_0, (a1_1, a1_2)), ()))) = some (F_impl_cross (p_impl_cross M a0_0 a0_1 a0_2 a1_0 a1_1 a1_2)) := by kernel_rfl
theorem ok_impl_cross : OkFn Try.prog 80 (S_impl_cross R) :=
  okFn_of good_nil follows Try.func80 rfl (by decide) (by decide) lam_nil (m := 2) (fun _ => rfl) (by decide) (fun _ _ h => nomatch h) (fun _ _ h => nomatch h) (fun x _ => ⟨40, e_impl_cross R x.1.1 x.1.2.1 x.1.2.2 x.2.1.1 x.2.1.2.1 x.2.1.2.2⟩)

set_option maxRecDepth 100000 in
theorem e_spec_l02Cross (M : FOps) (a0_0 : Nat) (a0_1 : Nat) (a0_2 : Nat) (a1_0 : Nat) (a1_1 : Nat) (a1_2 : Nat) : cwp M Try.prog (envOf []) (lamOf []) 40 (Try.f68.body.getD .skip) 0 (retK Try.prog Try.f68.results.toList (.cons (.agg (.pair (.fl .f32) (.pair (.fl .f32) (.fl .f32)))) .nil) 0) (initSt (.cons (.agg (.pair (.fl .f32) (.pair (.fl .f32) (.fl .f32)))) (.cons (.agg (.pair (.fl .f32) (.pair (.fl .f32) (.fl .f32)))) .nil)) ((a0_0, (a0_1, a0_2)), ((a1_0, (a1_1, a1_2)), ()))) = some (F_spec_l02Cross (p_spec_l02Cross M a0_0 a0_1 a0_2 a1_0 a1_1 a1_2)) := by kernel_rfl
theorem ok_spec_l02Cross : OkFn Try.prog 68 (S_spec_l02Cross R) :=
  okFn_of good_nil follows Try.func68 rfl (by decide) (by decide) lam_nil (m := 2) (fun _ => rfl) (by decide) (fun _ _ h => nomatch h) (fun _ _ h => nomatch h) (fun x _ => ⟨40, e_spec_l02Cross R x.1.1 x.1.2.1 x.1.2.2 x.2.1.1 x.2.1.2.1 x.2.1.2.2⟩)

set_option maxRecDepth 100000 in
theorem e_impl_Way_long (M : FOps) (a0_0 : Nat) (a0_1 : Nat) (a0_2 : Nat) : cwp M Try.prog (envOf [(82, S_impl_dotOf M), (102, S_impl_RootNumber M)]) (lamOf []) 40 (Try.f81.body.getD .skip) 0 (retK Try.prog Try.f81.results.toList (.cons (.one (.fl .f32)) .nil) 0) (initSt (.cons (.agg (.pair (.fl .f32) (.pair (.fl .f32) (.fl .f32)))) .nil) ((a0_0, (a0_1, a0_2)), ())) = some (F_impl_Way_long (p_impl_Way_long M a0_0 a0_1 a0_2)) := by kernel_rfl
theorem ok_impl_Way_long : OkFn Try.prog 81 (S_impl_Way_long R) :=
  okFn_of (good_cons ok_impl_dotOf (good_cons ok_impl_RootNumber good_nil)) follows Try.func81 rfl (by decide) (by decide) lam_nil (m := 1) (fun _ => rfl) (by decide) (fun _ _ h => nomatch h) (fun _ _ h => nomatch h) (fun x _ => ⟨40, e_impl_Way_long R x.1.1 x.1.2.1 x.1.2.2⟩)

set_option maxRecDepth 100000 in
theorem e_spec_l02Long (M : FOps) (a0_0 : Nat) (a0_1 : Nat) (a0_2 : Nat) : cwp M Try.prog (envOf [(69, S_spec_l02Dot M), (87, S_spec_l01Sqrt M)]) (lamOf []) 40 (Try.f67.body.getD .skip) 0 (retK Try.prog Try.f67.results.toList (.cons (.one (.fl .f32)) .nil) 0) (initSt (.cons (.agg (.pair (.fl .f32) (.pair (.fl .f32) (.fl .f32)))) .nil) ((a0_0, (a0_1, a0_2)), ())) = some (F_spec_l02Long (p_spec_l02Long M a0_0 a0_1 a0_2)) := by kernel_rfl
theorem ok_spec_l02Long : OkFn Try.prog 67 (S_spec_l02Long R) :=
  okFn_of (good_cons ok_spec_l02Dot (good_cons ok_spec_l01Sqrt good_nil)) follows Try.func67 rfl (by decide) (by decide) lam_nil (m := 1) (fun _ => rfl) (by decide) (fun _ _ h => nomatch h) (fun _ _ h => nomatch h) (fun x _ => ⟨40, e_spec_l02Long R x.1.1 x.1.2.1 x.1.2.2⟩)

set_option maxRecDepth 100000 in
theorem e_laws_sameFloat (M : FOps) (a0 : Nat) (a1 : Nat) : cwp M Try.prog (envOf []) (lamOf []) 40 (Try.f61.body.getD .skip) 0 (retK Try.prog Try.f61.results.toList (.cons (.one .bool) .nil) 0) (initSt (.cons (.one (.fl .f64)) (.cons (.one (.fl .f64)) .nil)) (a0, (a1, ()))) = some (F_laws_sameFloat (p_laws_sameFloat M a0 a1)) := 
  Eq.trans (b := (brT (M.cmp BinOp.neq FloatKind.f64 a0 a0) (brT (M.cmp BinOp.neq FloatKind.f64 a0 a0) (some (F_laws_sameFloat (M.cmp BinOp.neq FloatKind.f64 a1 a1))) (some (F_laws_sameFloat (false)))) (brT (M.cmp BinOp.neq FloatKind.f64 a1 a1) (brT (M.cmp BinOp.neq FloatKind.f64 a0 a0) (some (F_laws_sameFloat (M.cmp BinOp.neq FloatKind.f64 a1 a1))) (some (F_laws_sameFloat (false)))) (brT (M.cmp BinOp.eql FloatKind.f64 a0 0) (brT (M.cmp BinOp.eql FloatKind.f64 a1 0) (some (F_laws_sameFloat (M.cmp BinOp.gtr FloatKind.f64 (M.bin BinOp.quo FloatKind.f64 4607182418800017408 a0) 0 == M.cmp BinOp.gtr FloatKind.f64 (M.bin BinOp.quo FloatKind.f64 4607182418800017408 a1) 0))) (some (F_laws_sameFloat (M.cmp BinOp.eql FloatKind.f64 a0 a1)))) (some (F_laws_sameFloat (M.cmp BinOp.eql FloatKind.f64 a0 a1))))))) (by kernel_rfl)
    ((push2 (push2 rfl rfl) (push2 (push2 rfl rfl) (push2 (push2 rfl rfl) rfl))))
theorem ok_laws_sameFloat : OkFn Try.prog 61 (S_laws_sameFloat R) :=
  okFn_of good_nil follows Try.func61 rfl (by decide) (by decide) lam_nil (m := 2) (fun _ => rfl) (by decide) (fun _ _ h => nomatch h) (fun _ _ h => nomatch h) (fun x _ => ⟨40, e_laws_sameFloat R x.1 x.2.1⟩)

set_option maxRecDepth 100000 in
theorem e_laws_eqPlace (M : FOps) (a0_0 : Nat) (a0_1 : Nat) (a1_0 : Nat) (a1_1 : Nat) : cwp M Try.prog (envOf [(61, S_laws_sameFloat M)]) (lamOf []) 40 (Try.f42.body.getD .skip) 0 (retK Try.prog Try.f42.results.toList (.cons (.one .bool) .nil) 0) (initSt (.cons (.agg (.pair (.fl .f32) (.fl .f32))) (.cons (.agg (.pair (.fl .f32) (.fl .f32))) .nil)) ((a0_0, a0_1), ((a1_0, a1_1), ()))) = some (F_laws_eqPlace (p_laws_eqPlace M a0_0 a0_1 a1_0 a1_1)) := 
  Eq.trans (b := (brT (!p_laws_sameFloat M (M.wid a0_0) (M.wid a1_0)) (some (F_laws_eqPlace (false))) (brT (!p_laws_sameFloat M (M.wid a0_1) (M.wid a1_1)) (some (F_laws_eqPlace (false))) (some (F_laws_eqPlace (true)))))) (by kernel_rfl)
    ((push2 rfl (push2 rfl rfl)))
theorem ok_laws_eqPlace : OkFn Try.prog 42 (S_laws_eqPlace R) :=
  okFn_of (good_cons ok_laws_sameFloat good_nil) follows Try.func42 rfl (by decide) (by decide) lam_nil (m := 2) (fun _ => rfl) (by decide) (fun _ _ h => nomatch h) (fun _ _ h => nomatch h) (fun x _ => ⟨40, e_laws_eqPlace R x.1.1 x.1.2 x.2.1.1 x.2.1.2⟩)

set_option maxRecDepth 100000 in
theorem e_laws_toPlace (M : FOps) (a0_0 : Nat) (a0_1 : Nat) : cwp M Try.prog (envOf []) (lamOf []) 40 (Try.f32.body.getD .skip) 0 (retK Try.prog Try.f32.results.toList (.cons (.agg (.pair (.fl .f32) (.fl .f32))) .nil) 0) (initSt (.cons (.agg (.pair (.fl .f32) (.fl .f32))) .nil) ((a0_0, a0_1), ())) = some (F_laws_toPlace (p_laws_toPlace M a0_0 a0_1)) := by kernel_rfl
theorem ok_laws_toPlace : OkFn Try.prog 32 (S_laws_toPlace R) :=
  okFn_of good_nil follows Try.func32 rfl (by decide) (by decide) lam_nil (m := 1) (fun _ => rfl) (by decide) (fun _ _ h => nomatch h) (fun _ _ h => nomatch h) (fun x _ => ⟨40, e_laws_toPlace R x.1.1 x.1.2⟩)

end Go.Proofs.Ytggaemodkekeeaa
