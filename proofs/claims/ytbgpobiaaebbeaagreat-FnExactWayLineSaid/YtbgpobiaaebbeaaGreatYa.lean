/- Printed by gen2.py. -/
import Derived.Test.YtbgpobiaaebbeaaGreatGa
import Derived.Test.YtbgpobiaaebbeaaGreatYm
set_option linter.unusedVariables false
set_option linter.unusedSimpArgs false

-- GENERATED BELOW (gen.py)
namespace Go.Proofs.YtbgpobiaaebbeaaGreat
open Go Go.Cv Go.Dv
set_option maxRecDepth 100000 in
theorem e_math_NaN (M : FOps) : cwp M Tryz.prog (envOf [(159, sFrombits)]) (lamOf []) 40 (Tryz.f128.body.getD .skip) 0 (retK Tryz.prog Tryz.f128.results.toList (.cons (.one (.fl .f64)) .nil) 0) (initSt .nil ()) = some (F_math_NaN (p_math_NaN M)) := by kernel_rfl
theorem ok_math_NaN : OkFn Tryz.prog 128 (S_math_NaN R) :=
  okFn_of (good_cons ok_frombits good_nil) follows Tryz.func128 rfl (by decide) (by decide) lam_nil (m := 0) (fun _ => rfl) (by decide) (fun _ _ h => nomatch h) (fun _ _ h => nomatch h) (fun x _ => ⟨40, e_math_NaN R⟩)

set_option maxRecDepth 100000 in
theorem e_math_Floor (M : FOps) (a0 : Nat) : cwp M Tryz.prog (envOf [(130, un64 M.floor)]) (lamOf []) 40 (Tryz.f78.body.getD .skip) 0 (retK Tryz.prog Tryz.f78.results.toList (.cons (.one (.fl .f64)) .nil) 0) (initSt (.cons (.one (.fl .f64)) .nil) (a0, ())) = some (F_math_Floor (p_math_Floor M a0)) := by kernel_rfl
theorem ok_math_Floor : OkFn Tryz.prog 78 (S_math_Floor R) :=
  okFn_of (good_cons ok_archFloor good_nil) follows Tryz.func78 rfl (by decide) (by decide) lam_nil (m := 1) (fun _ => rfl) (by decide) (fun _ _ h => nomatch h) (fun _ _ h => nomatch h) (fun x _ => ⟨40, e_math_Floor R x.1⟩)

set_option maxRecDepth 100000 in
theorem e_math_Sqrt (M : FOps) (a0 : Nat) : cwp M Tryz.prog (envOf [(154, un64 M.sqrt)]) (lamOf []) 40 (Tryz.f114.body.getD .skip) 0 (retK Tryz.prog Tryz.f114.results.toList (.cons (.one (.fl .f64)) .nil) 0) (initSt (.cons (.one (.fl .f64)) .nil) (a0, ())) = some (F_math_Sqrt (p_math_Sqrt M a0)) := by kernel_rfl
theorem ok_math_Sqrt : OkFn Tryz.prog 114 (S_math_Sqrt R) :=
  okFn_of (good_cons ok_sqrt good_nil) follows Tryz.func114 rfl (by decide) (by decide) lam_nil (m := 1) (fun _ => rfl) (by decide) (fun _ _ h => nomatch h) (fun _ _ h => nomatch h) (fun x _ => ⟨40, e_math_Sqrt R x.1⟩)

set_option maxRecDepth 100000 in
theorem e_math_Trunc (M : FOps) (a0 : Nat) : cwp M Tryz.prog (envOf [(172, un64 M.trunc)]) (lamOf []) 40 (Tryz.f170.body.getD .skip) 0 (retK Tryz.prog Tryz.f170.results.toList (.cons (.one (.fl .f64)) .nil) 0) (initSt (.cons (.one (.fl .f64)) .nil) (a0, ())) = some (F_math_Trunc (p_math_Trunc M a0)) := by kernel_rfl
theorem ok_math_Trunc : OkFn Tryz.prog 170 (S_math_Trunc R) :=
  okFn_of (good_cons ok_archTrunc good_nil) follows Tryz.func170 rfl (by decide) (by decide) lam_nil (m := 1) (fun _ => rfl) (by decide) (fun _ _ h => nomatch h) (fun _ _ h => nomatch h) (fun x _ => ⟨40, e_math_Trunc R x.1⟩)

set_option maxRecDepth 100000 in
theorem e_math_Inf (M : FOps) (a0 : Int) : cwp M Tryz.prog (envOf [(159, sFrombits)]) (lamOf []) 40 (Tryz.f127.body.getD .skip) 0 (retK Tryz.prog Tryz.f127.results.toList (.cons (.one (.fl .f64)) .nil) 0) (initSt (.cons (.one (.int .i64)) .nil) (a0, ())) = some (F_math_Inf (p_math_Inf M a0)) := 
  Eq.trans (b := (brT (decide (a0 ≥ 0)) (some (F_math_Inf (9218868437227405312))) (some (F_math_Inf (18442240474082181120))))) (by kernel_rfl)
    ((push2 rfl rfl))
theorem ok_math_Inf : OkFn Tryz.prog 127 (S_math_Inf R) :=
  okFn_of (good_cons ok_frombits good_nil) follows Tryz.func127 rfl (by decide) (by decide) lam_nil (m := 1) (fun _ => rfl) (by decide) (fun _ _ h => nomatch h) (fun _ _ h => nomatch h) (fun x _ => ⟨40, e_math_Inf R x.1⟩)

set_option maxRecDepth 100000 in
theorem e_math_IsInf (M : FOps) (a0 : Nat) (a1 : Int) : cwp M Tryz.prog (envOf [(150, un64 M.abs)]) (lamOf []) 40 (Tryz.f158.body.getD .skip) 0 (retK Tryz.prog Tryz.f158.results.toList (.cons (.one .bool) .nil) 0) (initSt (.cons (.one (.fl .f64)) (.cons (.one (.int .i64)) .nil)) (a0, (a1, ()))) = some (F_math_IsInf (p_math_IsInf M a0 a1)) := 
  Eq.trans (b := (brT (a1 == 0) (some (F_math_IsInf (M.cmp BinOp.gtr FloatKind.f64 (M.abs a0) 9218868437227405311))) (brT (decide (a1 < 0)) (some (F_math_IsInf (M.cmp BinOp.gtr FloatKind.f64 (M.neg FloatKind.f64 a0) 9218868437227405311))) (some (F_math_IsInf (M.cmp BinOp.gtr FloatKind.f64 a0 9218868437227405311)))))) (by kernel_rfl)
    ((push2 rfl (push2 rfl rfl)))
theorem ok_math_IsInf : OkFn Tryz.prog 158 (S_math_IsInf R) :=
  okFn_of (good_cons ok_Abs good_nil) follows Tryz.func158 rfl (by decide) (by decide) lam_nil (m := 2) (fun _ => rfl) (by decide) (fun _ _ h => nomatch h) (fun _ _ h => nomatch h) (fun x _ => ⟨40, e_math_IsInf R x.1 x.2.1⟩)

set_option maxRecDepth 100000 in
theorem e_impl_isFinite (M : FOps) (a0 : Nat) : cwp M Tryz.prog (envOf []) (lamOf []) 40 (Tryz.f96.body.getD .skip) 0 (retK Tryz.prog Tryz.f96.results.toList (.cons (.one .bool) .nil) 0) (initSt (.cons (.one (.fl .f64)) .nil) (a0, ())) = some (F_impl_isFinite (p_impl_isFinite M a0)) := by kernel_rfl
theorem ok_impl_isFinite : OkFn Tryz.prog 96 (S_impl_isFinite R) :=
  okFn_of good_nil follows Tryz.func96 rfl (by decide) (by decide) lam_nil (m := 1) (fun _ => rfl) (by decide) (fun _ _ h => nomatch h) (fun _ _ h => nomatch h) (fun x _ => ⟨40, e_impl_isFinite R x.1⟩)

set_option maxRecDepth 100000 in
theorem e_impl_IsFinite (M : FOps) (a0 : Nat) : cwp M Tryz.prog (envOf [(96, S_impl_isFinite M)]) (lamOf []) 40 (Tryz.f63.body.getD .skip) 0 (retK Tryz.prog Tryz.f63.results.toList (.cons (.one .bool) .nil) 0) (initSt (.cons (.one (.fl .f32)) .nil) (a0, ())) = some (F_impl_IsFinite (p_impl_IsFinite M a0)) := by kernel_rfl
theorem ok_impl_IsFinite : OkFn Tryz.prog 63 (S_impl_IsFinite R) :=
  okFn_of (good_cons ok_impl_isFinite good_nil) follows Tryz.func63 rfl (by decide) (by decide) lam_nil (m := 1) (fun _ => rfl) (by decide) (fun _ _ h => nomatch h) (fun _ _ h => nomatch h) (fun x _ => ⟨40, e_impl_IsFinite R x.1⟩)

set_option maxRecDepth 100000 in
theorem e_impl_fraction (M : FOps) (a0 : Nat) : cwp M Tryz.prog (envOf [(170, S_math_Trunc M)]) (lamOf []) 40 (Tryz.f166.body.getD .skip) 0 (retK Tryz.prog Tryz.f166.results.toList (.cons (.one (.fl .f64)) .nil) 0) (initSt (.cons (.one (.fl .f64)) .nil) (a0, ())) = some (F_impl_fraction (p_impl_fraction M a0)) := 
  Eq.trans (b := (brT (M.cmp BinOp.eql FloatKind.f64 (p_math_Trunc M a0) 0) (brT (M.cmp BinOp.lss FloatKind.f64 (M.bin BinOp.sub FloatKind.f64 a0 0) 0) (some (F_impl_fraction (M.bin BinOp.add FloatKind.f64 (M.bin BinOp.sub FloatKind.f64 a0 0) 4607182418800017408))) (some (F_impl_fraction (M.bin BinOp.sub FloatKind.f64 a0 0)))) (brT (M.cmp BinOp.lss FloatKind.f64 (M.bin BinOp.sub FloatKind.f64 a0 (p_math_Trunc M a0)) 0) (some (F_impl_fraction (M.bin BinOp.add FloatKind.f64 (M.bin BinOp.sub FloatKind.f64 a0 (p_math_Trunc M a0)) 4607182418800017408))) (some (F_impl_fraction (M.bin BinOp.sub FloatKind.f64 a0 (p_math_Trunc M a0))))))) (by kernel_rfl)
    ((push2 (push2 rfl rfl) (push2 rfl rfl)))
theorem ok_impl_fraction : OkFn Tryz.prog 166 (S_impl_fraction R) :=
  okFn_of (good_cons ok_math_Trunc good_nil) follows Tryz.func166 rfl (by decide) (by decide) lam_nil (m := 1) (fun _ => rfl) (by decide) (fun _ _ h => nomatch h) (fun _ _ h => nomatch h) (fun x _ => ⟨40, e_impl_fraction R x.1⟩)

set_option maxRecDepth 100000 in
theorem e_impl_floor (M : FOps) (a0 : Nat) (h : r_impl_floor M a0 = true) : cwp M Tryz.prog (envOf [(78, S_math_Floor M)]) (lamOf []) 40 (Tryz.f87.body.getD .skip) 0 (retK Tryz.prog Tryz.f87.results.toList (.cons (.one (.fl .f32)) .nil) 0) (initSt (.cons (.one (.fl .f32)) .nil) (a0, ())) = some (F_impl_floor (p_impl_floor M a0)) := 
  Eq.trans (b := (brT (M.narOk (p_math_Floor M (M.wid a0))) (some (F_impl_floor (M.nar (p_math_Floor M (M.wid a0))))) none)) (by kernel_rfl)
    ((pushL (fun _ => rfl)) h)
theorem ok_impl_floor : OkFn Tryz.prog 87 (S_impl_floor R) :=
  okFn_of (good_cons ok_math_Floor good_nil) follows Tryz.func87 rfl (by decide) (by decide) lam_nil (m := 1) (fun _ => rfl) (by decide) (fun _ _ h => nomatch h) (fun _ _ h => nomatch h) (fun x _ => ⟨40, e_impl_floor R x.1 (rr_impl_floor x.1)⟩)

set_option maxRecDepth 100000 in
theorem e_impl_RootNumber (M : FOps) (a0 : Nat) (h : r_impl_RootNumber M a0 = true) : cwp M Tryz.prog (envOf [(114, S_math_Sqrt M)]) (lamOf []) 40 (Tryz.f153.body.getD .skip) 0 (retK Tryz.prog Tryz.f153.results.toList (.cons (.one (.fl .f32)) .nil) 0) (initSt (.cons (.one (.fl .f32)) .nil) (a0, ())) = some (F_impl_RootNumber (p_impl_RootNumber M a0)) := 
  Eq.trans (b := (brT (M.narOk (p_math_Sqrt M (M.wid a0))) (some (F_impl_RootNumber (M.nar (p_math_Sqrt M (M.wid a0))))) none)) (by kernel_rfl)
    ((pushL (fun _ => rfl)) h)
theorem ok_impl_RootNumber : OkFn Tryz.prog 153 (S_impl_RootNumber R) :=
  okFn_of (good_cons ok_math_Sqrt good_nil) follows Tryz.func153 rfl (by decide) (by decide) lam_nil (m := 1) (fun _ => rfl) (by decide) (fun _ _ h => nomatch h) (fun _ _ h => nomatch h) (fun x _ => ⟨40, e_impl_RootNumber R x.1 (rr_impl_RootNumber x.1)⟩)

set_option maxRecDepth 100000 in
theorem e_spec_l01Finite (M : FOps) (a0 : Nat) : cwp M Tryz.prog (envOf []) (lamOf []) 40 (Tryz.f60.body.getD .skip) 0 (retK Tryz.prog Tryz.f60.results.toList (.cons (.one .bool) .nil) 0) (initSt (.cons (.one (.fl .f32)) .nil) (a0, ())) = some (F_spec_l01Finite (p_spec_l01Finite M a0)) := by kernel_rfl
theorem ok_spec_l01Finite : OkFn Tryz.prog 60 (S_spec_l01Finite R) :=
  okFn_of good_nil follows Tryz.func60 rfl (by decide) (by decide) lam_nil (m := 1) (fun _ => rfl) (by decide) (fun _ _ h => nomatch h) (fun _ _ h => nomatch h) (fun x _ => ⟨40, e_spec_l01Finite R x.1⟩)

set_option maxRecDepth 100000 in
theorem e_spec_l01Narrow (M : FOps) (a0 : Nat) (h : r_spec_l01Narrow M a0 = true) : cwp M Tryz.prog (envOf []) (lamOf []) 40 (Tryz.f113.body.getD .skip) 0 (retK Tryz.prog Tryz.f113.results.toList (.cons (.one (.fl .f32)) .nil) 0) (initSt (.cons (.one (.fl .f64)) .nil) (a0, ())) = some (F_spec_l01Narrow (p_spec_l01Narrow M a0)) := 
  Eq.trans (b := (brT (M.narOk a0) (some (F_spec_l01Narrow (M.nar a0))) none)) (by kernel_rfl)
    ((pushL (fun _ => rfl)) h)
theorem ok_spec_l01Narrow : OkFn Tryz.prog 113 (S_spec_l01Narrow R) :=
  okFn_of good_nil follows Tryz.func113 rfl (by decide) (by decide) lam_nil (m := 1) (fun _ => rfl) (by decide) (fun _ _ h => nomatch h) (fun _ _ h => nomatch h) (fun x hx => ⟨40, e_spec_l01Narrow R x.1 hx⟩)

set_option maxRecDepth 100000 in
theorem e_spec_l01Sqrt (M : FOps) (a0 : Nat) (h : r_spec_l01Sqrt M a0 = true) : cwp M Tryz.prog (envOf [(113, S_spec_l01Narrow M), (114, S_math_Sqrt M)]) (lamOf []) 40 (Tryz.f147.body.getD .skip) 0 (retK Tryz.prog Tryz.f147.results.toList (.cons (.one (.fl .f32)) .nil) 0) (initSt (.cons (.one (.fl .f32)) .nil) (a0, ())) = some (F_spec_l01Sqrt (p_spec_l01Sqrt M a0)) := 
  Eq.trans (b := (brT (true && true && r_spec_l01Narrow M (p_math_Sqrt M (M.wid a0))) (some (F_spec_l01Sqrt (p_spec_l01Narrow M (p_math_Sqrt M (M.wid a0))))) none)) (by kernel_rfl)
    ((pushL (fun _ => rfl)) h)
theorem ok_spec_l01Sqrt : OkFn Tryz.prog 147 (S_spec_l01Sqrt R) :=
  okFn_of (good_cons ok_spec_l01Narrow (good_cons ok_math_Sqrt good_nil)) follows Tryz.func147 rfl (by decide) (by decide) lam_nil (m := 1) (fun _ => rfl) (by decide) (fun _ _ h => nomatch h) (fun _ _ h => nomatch h) (fun x _ => ⟨40, e_spec_l01Sqrt R x.1 (rr_spec_l01Sqrt x.1)⟩)

set_option maxRecDepth 100000 in
theorem e_impl_inside (M : FOps) (a0 : Nat) (a1 : Nat) (a2 : Nat) : cwp M Tryz.prog (envOf []) (lamOf []) 40 (Tryz.f54.body.getD .skip) 0 (retK Tryz.prog Tryz.f54.results.toList (.cons (.one .bool) .nil) 0) (initSt (.cons (.one (.fl .f32)) (.cons (.one (.fl .f32)) (.cons (.one (.fl .f32)) .nil))) (a0, (a1, (a2, ())))) = some (F_impl_inside (p_impl_inside M a0 a1 a2)) := 
  Eq.trans (b := (brT (M.cmp BinOp.geq FloatKind.f32 a0 a1) (some (F_impl_inside (M.cmp BinOp.leq FloatKind.f32 a0 a2))) (some (F_impl_inside (false))))) (by kernel_rfl)
    ((push2 rfl rfl))
theorem ok_impl_inside : OkFn Tryz.prog 54 (S_impl_inside R) :=
  okFn_of good_nil follows Tryz.func54 rfl (by decide) (by decide) lam_nil (m := 3) (fun _ => rfl) (by decide) (fun _ _ h => nomatch h) (fun _ _ h => nomatch h) (fun x _ => ⟨40, e_impl_inside R x.1 x.2.1 x.2.2.1⟩)

set_option maxRecDepth 100000 in
theorem e_impl_ValidPlace (M : FOps) (a0_0 : Nat) (a0_1 : Nat) : cwp M Tryz.prog (envOf [(54, S_impl_inside M)]) (lamOf []) 40 (Tryz.f57.body.getD .skip) 0 (retK Tryz.prog Tryz.f57.results.toList (.cons (.one .bool) .nil) 0) (initSt (.cons (.agg (.pair (.fl .f32) (.fl .f32))) .nil) ((a0_0, a0_1), ())) = some (F_impl_ValidPlace (p_impl_ValidPlace M a0_0 a0_1)) := 
  Eq.trans (b := (brT (p_impl_inside M a0_0 3196059648 1048576000) (brT (M.cmp BinOp.geq FloatKind.f32 a0_1 3204448256) (some (F_impl_ValidPlace (M.cmp BinOp.lss FloatKind.f32 a0_1 1056964608))) (some (F_impl_ValidPlace (false)))) (some (F_impl_ValidPlace (false))))) (by kernel_rfl)
    ((push2 (push2 rfl rfl) rfl))
theorem ok_impl_ValidPlace : OkFn Tryz.prog 57 (S_impl_ValidPlace R) :=
  okFn_of (good_cons ok_impl_inside good_nil) follows Tryz.func57 rfl (by decide) (by decide) lam_nil (m := 1) (fun _ => rfl) (by decide) (fun _ _ h => nomatch h) (fun _ _ h => nomatch h) (fun x _ => ⟨40, e_impl_ValidPlace R x.1.1 x.1.2⟩)

set_option maxRecDepth 100000 in
theorem e_spec_l02Is (M : FOps) (a0_0 : Nat) (a0_1 : Nat) : cwp M Tryz.prog (envOf []) (lamOf []) 40 (Tryz.f35.body.getD .skip) 0 (retK Tryz.prog Tryz.f35.results.toList (.cons (.one .bool) .nil) 0) (initSt (.cons (.ptr (.pair (.fl .f32) (.fl .f32))) .nil) ((a0_0, a0_1), ())) = some (F_spec_l02Is (p_spec_l02Is M a0_0 a0_1)) := 
  Eq.trans (b := (brT (M.cmp BinOp.geq FloatKind.f32 a0_0 3196059648) (brT (M.cmp BinOp.leq FloatKind.f32 a0_0 1048576000) (brT (M.cmp BinOp.geq FloatKind.f32 a0_1 3204448256) (some (F_spec_l02Is (M.cmp BinOp.lss FloatKind.f32 a0_1 1056964608))) (some (F_spec_l02Is (false)))) (some (F_spec_l02Is (false)))) (some (F_spec_l02Is (false))))) (by kernel_rfl)
    ((push2 (push2 (push2 rfl rfl) rfl) rfl))
theorem ok_spec_l02Is : OkFn Tryz.prog 35 (S_spec_l02Is R) :=
  okFn_of good_nil follows Tryz.func35 rfl (by decide) (by decide) lam_nil (m := 1) (fun _ => rfl) (by decide) (fun _ _ h => nomatch h) (fun _ _ h => nomatch h) (fun x _ => ⟨40, e_spec_l02Is R x.1.1 x.1.2⟩)

set_option maxRecDepth 100000 in
theorem e_impl_within (M : FOps) (a0 : Int) (a1 : Int) (a2 : Int) : cwp M Tryz.prog (envOf []) (lamOf []) 40 (Tryz.f55.body.getD .skip) 0 (retK Tryz.prog Tryz.f55.results.toList (.cons (.one .bool) .nil) 0) (initSt (.cons (.one (.int .i64)) (.cons (.one (.int .i64)) (.cons (.one (.int .i64)) .nil))) (a0, (a1, (a2, ())))) = some (F_impl_within (p_impl_within M a0 a1 a2)) := 
  Eq.trans (b := (brT (decide (a1 ≤ a0)) (some (F_impl_within (decide (a0 ≤ a2)))) (some (F_impl_within (false))))) (by kernel_rfl)
    ((push2 rfl rfl))
theorem ok_impl_within : OkFn Tryz.prog 55 (S_impl_within R) :=
  okFn_of good_nil follows Tryz.func55 rfl (by decide) (by decide) lam_nil (m := 3) (fun _ => rfl) (by decide) (fun _ _ h => nomatch h) (fun _ _ h => nomatch h) (fun x _ => ⟨40, e_impl_within R x.1 x.2.1 x.2.2.1⟩)

set_option maxRecDepth 100000 in
theorem e_spec_l02Two (M : FOps) (a0_0 : Nat) (a0_1 : Nat) (a1_0 : Nat) (a1_1 : Nat) : cwp M Tryz.prog (envOf [(35, S_spec_l02Is M)]) (lamOf []) 40 (Tryz.f89.body.getD .skip) 0 (retK Tryz.prog Tryz.f89.results.toList (.cons (.one .bool) .nil) 0) (initSt (.cons (.agg (.pair (.fl .f32) (.fl .f32))) (.cons (.agg (.pair (.fl .f32) (.fl .f32))) .nil)) ((a0_0, a0_1), ((a1_0, a1_1), ()))) = some (F_spec_l02Two (p_spec_l02Two M a0_0 a0_1 a1_0 a1_1)) := 
  Eq.trans (b := (brT (p_spec_l02Is M a0_0 a0_1) (some (F_spec_l02Two (p_spec_l02Is M a1_0 a1_1))) (some (F_spec_l02Two (false))))) (by kernel_rfl)
    ((push2 rfl rfl))
theorem ok_spec_l02Two : OkFn Tryz.prog 89 (S_spec_l02Two R) :=
  okFn_of (good_cons ok_spec_l02Is good_nil) follows Tryz.func89 rfl (by decide) (by decide) lam_nil (m := 2) (fun _ => rfl) (by decide) (fun _ _ h => nomatch h) (fun _ _ h => nomatch h) (fun x _ => ⟨40, e_spec_l02Two R x.1.1 x.1.2 x.2.1.1 x.2.1.2⟩)

set_option maxRecDepth 100000 in
theorem e_spec_l02Number (M : FOps) (a0 : Nat) : cwp M Tryz.prog (envOf [(60, S_spec_l01Finite M)]) (lamOf []) 40 (Tryz.f76.body.getD .skip) 0 (retK Tryz.prog Tryz.f76.results.toList (.cons (.one (.fl .f32)) (.cons (.one .bool) .nil)) 0) (initSt (.cons (.one (.fl .f32)) .nil) (a0, ())) = some (F_spec_l02Number (p_spec_l02Number M a0)) := 
  Eq.trans (b := (brT (!p_spec_l01Finite M a0) (some (F_spec_l02Number ((0, false)))) (some (F_spec_l02Number ((a0, true)))))) (by kernel_rfl)
    ((push2 rfl rfl))
theorem ok_spec_l02Number : OkFn Tryz.prog 76 (S_spec_l02Number R) :=
  okFn_of (good_cons ok_spec_l01Finite good_nil) follows Tryz.func76 rfl (by decide) (by decide) lam_nil (m := 1) (fun _ => rfl) (by decide) (fun _ _ h => nomatch h) (fun _ _ h => nomatch h) (fun x _ => ⟨40, e_spec_l02Number R x.1⟩)

set_option maxRecDepth 100000 in
theorem e_impl_finite (M : FOps) (a0 : Nat) (a1 : Bool) : cwp M Tryz.prog (envOf [(63, S_impl_IsFinite M)]) (lamOf []) 40 (Tryz.f52.body.getD .skip) 0 (retK Tryz.prog Tryz.f52.results.toList (.cons (.one (.fl .f32)) (.cons (.one .bool) .nil)) 0) (initSt (.cons (.one (.fl .f32)) (.cons (.one .bool) .nil)) (a0, (a1, ()))) = some (F_impl_finite (p_impl_finite M a0 a1)) := 
  Eq.trans (b := (brT (!a1) (some (F_impl_finite ((0, false)))) (brT (!p_impl_IsFinite M a0) (some (F_impl_finite ((0, false)))) (some (F_impl_finite ((a0, true))))))) (by kernel_rfl)
    ((push2 rfl (push2 rfl rfl)))
theorem ok_impl_finite : OkFn Tryz.prog 52 (S_impl_finite R) :=
  okFn_of (good_cons ok_impl_IsFinite good_nil) follows Tryz.func52 rfl (by decide) (by decide) lam_nil (m := 2) (fun _ => rfl) (by decide) (fun _ _ h => nomatch h) (fun _ _ h => nomatch h) (fun x _ => ⟨40, e_impl_finite R x.1 x.2.1⟩)

set_option maxRecDepth 100000 in
theorem e_spec_l02Above (M : FOps) (a0 : Nat) : cwp M Tryz.prog (envOf [(60, S_spec_l01Finite M)]) (lamOf []) 40 (Tryz.f146.body.getD .skip) 0 (retK Tryz.prog Tryz.f146.results.toList (.cons (.one .bool) .nil) 0) (initSt (.cons (.one (.fl .f32)) .nil) (a0, ())) = some (F_spec_l02Above (p_spec_l02Above M a0)) := 
  Eq.trans (b := (brT (p_spec_l01Finite M a0) (some (F_spec_l02Above (M.cmp BinOp.gtr FloatKind.f32 a0 0))) (some (F_spec_l02Above (false))))) (by kernel_rfl)
    ((push2 rfl rfl))
theorem ok_spec_l02Above : OkFn Tryz.prog 146 (S_spec_l02Above R) :=
  okFn_of (good_cons ok_spec_l01Finite good_nil) follows Tryz.func146 rfl (by decide) (by decide) lam_nil (m := 1) (fun _ => rfl) (by decide) (fun _ _ h => nomatch h) (fun _ _ h => nomatch h) (fun x _ => ⟨40, e_spec_l02Above R x.1⟩)

set_option maxRecDepth 100000 in
theorem e_spec_l02Above0 (M : FOps) (a0 : Nat) : cwp M Tryz.prog (envOf []) (lamOf []) 40 (Tryz.f137.body.getD .skip) 0 (retK Tryz.prog Tryz.f137.results.toList (.cons (.one (.fl .f32)) .nil) 0) (initSt (.cons (.one (.fl .f32)) .nil) (a0, ())) = some (F_spec_l02Above0 (p_spec_l02Above0 M a0)) := 
  Eq.trans (b := (brT (M.cmp BinOp.lss FloatKind.f32 a0 0) (some (F_spec_l02Above0 (M.bin BinOp.add FloatKind.f32 a0 1065353216))) (some (F_spec_l02Above0 (a0))))) (by kernel_rfl)
    ((push2 rfl rfl))
theorem ok_spec_l02Above0 : OkFn Tryz.prog 137 (S_spec_l02Above0 R) :=
  okFn_of good_nil follows Tryz.func137 rfl (by decide) (by decide) lam_nil (m := 1) (fun _ => rfl) (by decide) (fun _ _ h => nomatch h) (fun _ _ h => nomatch h) (fun x _ => ⟨40, e_spec_l02Above0 R x.1⟩)

set_option maxRecDepth 100000 in
theorem e_impl_positive (M : FOps) (a0 : Nat) : cwp M Tryz.prog (envOf []) (lamOf []) 40 (Tryz.f103.body.getD .skip) 0 (retK Tryz.prog Tryz.f103.results.toList (.cons (.one (.fl .f32)) .nil) 0) (initSt (.cons (.one (.fl .f32)) .nil) (a0, ())) = some (F_impl_positive (p_impl_positive M a0)) := 
  Eq.trans (b := (brT (M.cmp BinOp.lss FloatKind.f32 a0 0) (some (F_impl_positive (M.bin BinOp.add FloatKind.f32 a0 1065353216))) (some (F_impl_positive (a0))))) (by kernel_rfl)
    ((push2 rfl rfl))
theorem ok_impl_positive : OkFn Tryz.prog 103 (S_impl_positive R) :=
  okFn_of good_nil follows Tryz.func103 rfl (by decide) (by decide) lam_nil (m := 1) (fun _ => rfl) (by decide) (fun _ _ h => nomatch h) (fun _ _ h => nomatch h) (fun x _ => ⟨40, e_impl_positive R x.1⟩)

set_option maxRecDepth 100000 in
theorem e_spec_l02Ways (M : FOps) (a0_0 : Nat) (a0_1 : Nat) (a0_2 : Nat) : cwp M Tryz.prog (envOf [(60, S_spec_l01Finite M)]) (lamOf []) 40 (Tryz.f145.body.getD .skip) 0 (retK Tryz.prog Tryz.f145.results.toList (.cons (.one .bool) .nil) 0) (initSt (.cons (.agg (.pair (.fl .f32) (.pair (.fl .f32) (.fl .f32)))) .nil) ((a0_0, (a0_1, a0_2)), ())) = some (F_spec_l02Ways (p_spec_l02Ways M a0_0 a0_1 a0_2)) := 
  Eq.trans (b := (brT (p_spec_l01Finite M a0_0) (brT (p_spec_l01Finite M a0_1) (some (F_spec_l02Ways (p_spec_l01Finite M a0_2))) (some (F_spec_l02Ways (false)))) (some (F_spec_l02Ways (false))))) (by kernel_rfl)
    ((push2 (push2 rfl rfl) rfl))
theorem ok_spec_l02Ways : OkFn Tryz.prog 145 (S_spec_l02Ways R) :=
  okFn_of (good_cons ok_spec_l01Finite good_nil) follows Tryz.func145 rfl (by decide) (by decide) lam_nil (m := 1) (fun _ => rfl) (by decide) (fun _ _ h => nomatch h) (fun _ _ h => nomatch h) (fun x _ => ⟨40, e_spec_l02Ways R x.1.1 x.1.2.1 x.1.2.2⟩)

set_option maxRecDepth 100000 in
theorem e_spec_l02Give (M : FOps) (a0_0 : Nat) (a0_1 : Nat) : cwp M Tryz.prog (envOf [(35, S_spec_l02Is M)]) (lamOf []) 40 (Tryz.f148.body.getD .skip) 0 (retK Tryz.prog Tryz.f148.results.toList (.cons (.agg (.pair (.fl .f32) (.fl .f32))) (.cons (.one .bool) .nil)) 0) (initSt (.cons (.agg (.pair (.fl .f32) (.fl .f32))) .nil) ((a0_0, a0_1), ())) = some (F_spec_l02Give (p_spec_l02Give M a0_0 a0_1)) := 
  Eq.trans (b := (brT (!p_spec_l02Is M a0_0 a0_1) (some (F_spec_l02Give ((0, 0, false)))) (some (F_spec_l02Give ((a0_0, a0_1, true)))))) (by kernel_rfl)
    ((push2 rfl rfl))
theorem ok_spec_l02Give : OkFn Tryz.prog 148 (S_spec_l02Give R) :=
  okFn_of (good_cons ok_spec_l02Is good_nil) follows Tryz.func148 rfl (by decide) (by decide) lam_nil (m := 1) (fun _ => rfl) (by decide) (fun _ _ h => nomatch h) (fun _ _ h => nomatch h) (fun x _ => ⟨40, e_spec_l02Give R x.1.1 x.1.2⟩)

set_option maxRecDepth 100000 in
theorem e_impl_valid (M : FOps) (a0_0 : Nat) (a0_1 : Nat) (a1 : Bool) : cwp M Tryz.prog (envOf [(57, S_impl_ValidPlace M)]) (lamOf []) 40 (Tryz.f33.body.getD .skip) 0 (retK Tryz.prog Tryz.f33.results.toList (.cons (.agg (.pair (.fl .f32) (.fl .f32))) (.cons (.one .bool) .nil)) 0) (initSt (.cons (.agg (.pair (.fl .f32) (.fl .f32))) (.cons (.one .bool) .nil)) ((a0_0, a0_1), (a1, ()))) = some (F_impl_valid (p_impl_valid M a0_0 a0_1 a1)) := 
  Eq.trans (b := (brT (!a1) (some (F_impl_valid ((0, 0, false)))) (brT (!p_impl_ValidPlace M a0_0 a0_1) (some (F_impl_valid ((0, 0, false)))) (some (F_impl_valid ((a0_0, a0_1, true))))))) (by kernel_rfl)
    ((push2 rfl (push2 rfl rfl)))
theorem ok_impl_valid : OkFn Tryz.prog 33 (S_impl_valid R) :=
  okFn_of (good_cons ok_impl_ValidPlace good_nil) follows Tryz.func33 rfl (by decide) (by decide) lam_nil (m := 2) (fun _ => rfl) (by decide) (fun _ _ h => nomatch h) (fun _ _ h => nomatch h) (fun x _ => ⟨40, e_impl_valid R x.1.1 x.1.2 x.2.1⟩)

set_option maxRecDepth 100000 in
theorem e_spec_l02Wrap (M : FOps) (a0 : Nat) (h : r_spec_l02Wrap M a0 = true) : cwp M Tryz.prog (envOf [(78, S_math_Floor M)]) (lamOf []) 40 (Tryz.f49.body.getD .skip) 0 (retK Tryz.prog Tryz.f49.results.toList (.cons (.one (.fl .f32)) .nil) 0) (initSt (.cons (.one (.fl .f32)) .nil) (a0, ())) = some (F_spec_l02Wrap (p_spec_l02Wrap M a0)) := 
  Eq.trans (b := (brT (M.narOk (p_math_Floor M (M.wid (M.bin BinOp.add FloatKind.f32 a0 1056964608)))) (brT (M.cmp BinOp.geq FloatKind.f32 (M.bin BinOp.sub FloatKind.f32 a0 (M.nar (p_math_Floor M (M.wid (M.bin BinOp.add FloatKind.f32 a0 1056964608))))) 1056964608) (some (F_spec_l02Wrap (3204448256))) (some (F_spec_l02Wrap (M.bin BinOp.sub FloatKind.f32 a0 (M.nar (p_math_Floor M (M.wid (M.bin BinOp.add FloatKind.f32 a0 1056964608)))))))) none)) (by kernel_rfl)
    ((pushL (fun _ => (push2 rfl rfl))) h)
theorem ok_spec_l02Wrap : OkFn Tryz.prog 49 (S_spec_l02Wrap R) :=
  okFn_of (good_cons ok_math_Floor good_nil) follows Tryz.func49 rfl (by decide) (by decide) lam_nil (m := 1) (fun _ => rfl) (by decide) (fun _ _ h => nomatch h) (fun _ _ h => nomatch h) (fun x _ => ⟨40, e_spec_l02Wrap R x.1 (rr_spec_l02Wrap x.1)⟩)

set_option maxRecDepth 100000 in
theorem e_impl_wrap (M : FOps) (a0 : Nat) : cwp M Tryz.prog (envOf [(87, S_impl_floor M)]) (lamOf []) 40 (Tryz.f53.body.getD .skip) 0 (retK Tryz.prog Tryz.f53.results.toList (.cons (.one (.fl .f32)) .nil) 0) (initSt (.cons (.one (.fl .f32)) .nil) (a0, ())) = some (F_impl_wrap (p_impl_wrap M a0)) := 
  Eq.trans (b := (brT (M.cmp BinOp.geq FloatKind.f32 (M.bin BinOp.sub FloatKind.f32 a0 (p_impl_floor M (M.bin BinOp.add FloatKind.f32 a0 1056964608))) 1056964608) (some (F_impl_wrap (3204448256))) (some (F_impl_wrap (M.bin BinOp.sub FloatKind.f32 a0 (p_impl_floor M (M.bin BinOp.add FloatKind.f32 a0 1056964608))))))) (by kernel_rfl)
    ((push2 rfl rfl))
theorem ok_impl_wrap : OkFn Tryz.prog 53 (S_impl_wrap R) :=
  okFn_of (good_cons ok_impl_floor good_nil) follows Tryz.func53 rfl (by decide) (by decide) lam_nil (m := 1) (fun _ => rfl) (by decide) (fun _ _ h => nomatch h) (fun _ _ h => nomatch h) (fun x _ => ⟨40, e_impl_wrap R x.1⟩)

set_option maxRecDepth 100000 in
theorem e_impl_isBetweenPoles (M : FOps) (a0 : Nat) : cwp M Tryz.prog (envOf []) (lamOf []) 40 (Tryz.f165.body.getD .skip) 0 (retK Tryz.prog Tryz.f165.results.toList (.cons (.one .bool) .nil) 0) (initSt (.cons (.one (.fl .f32)) .nil) (a0, ())) = some (F_impl_isBetweenPoles (p_impl_isBetweenPoles M a0)) := 
  Eq.trans (b := (brT (M.cmp BinOp.gtr FloatKind.f32 a0 3196059648) (some (F_impl_isBetweenPoles (M.cmp BinOp.lss FloatKind.f32 a0 1048576000))) (some (F_impl_isBetweenPoles (false))))) (by kernel_rfl)
    ((push2 rfl rfl))
theorem ok_impl_isBetweenPoles : OkFn Tryz.prog 165 (S_impl_isBetweenPoles R) :=
  okFn_of good_nil follows Tryz.func165 rfl (by decide) (by decide) lam_nil (m := 1) (fun _ => rfl) (by decide) (fun _ _ h => nomatch h) (fun _ _ h => nomatch h) (fun x _ => ⟨40, e_impl_isBetweenPoles R x.1⟩)

set_option maxRecDepth 100000 in
theorem e_impl_dotOf (M : FOps) (a0_0 : Nat) (a0_1 : Nat) (a0_2 : Nat) (a1_0 : Nat) (a1_1 : Nat) (a1_2 : Nat) : cwp M Tryz.prog (envOf []) (lamOf []) 40 (Tryz.f107.body.getD .skip) 0 (retK Tryz.prog Tryz.f107.results.toList (.cons (.one (.fl .f32)) .nil) 0) (initSt (.cons (.agg (.pair (.fl .f32) (.pair (.fl .f32) (.fl .f32)))) (.cons (.agg (.pair (.fl .f32) (.pair (.fl .f32) (.fl .f32)))) .nil)) ((a0_0, (a0_1, a0_2)), ((a1_0, (a1_1, a1_2)), ()))) = some (F_impl_dotOf (p_impl_dotOf M a0_0 a0_1 a0_2 a1_0 a1_1 a1_2)) := by kernel_rfl
theorem ok_impl_dotOf : OkFn Tryz.prog 107 (S_impl_dotOf R) :=
  okFn_of good_nil follows Tryz.func107 rfl (by decide) (by decide) lam_nil (m := 2) (fun _ => rfl) (by decide) (fun _ _ h => nomatch h) (fun _ _ h => nomatch h) (fun x _ => ⟨40, e_impl_dotOf R x.1.1 x.1.2.1 x.1.2.2 x.2.1.1 x.2.1.2.1 x.2.1.2.2⟩)

set_option maxRecDepth 100000 in
theorem e_spec_l02Dot (M : FOps) (a0_0 : Nat) (a0_1 : Nat) (a0_2 : Nat) (a1_0 : Nat) (a1_1 : Nat) (a1_2 : Nat) : cwp M Tryz.prog (envOf []) (lamOf []) 40 (Tryz.f136.body.getD .skip) 0 (retK Tryz.prog Tryz.f136.results.toList (.cons (.one (.fl .f32)) .nil) 0) (initSt (.cons (.agg (.pair (.fl .f32) (.pair (.fl .f32) (.fl .f32)))) (.cons (.agg (.pair (.fl .f32) (.pair (.fl .f32) (.fl .f32)))) .nil)) ((a0_0, (a0_1, a0_2)), ((a1_0, (a1_1, a1_2)), ()))) = some (F_spec_l02Dot (p_spec_l02Dot M a0_0 a0_1 a0_2 a1_0 a1_1 a1_2)) := by kernel_rfl
theorem ok_spec_l02Dot : OkFn Tryz.prog 136 (S_spec_l02Dot R) :=
  okFn_of good_nil follows Tryz.func136 rfl (by decide) (by decide) lam_nil (m := 2) (fun _ => rfl) (by decide) (fun _ _ h => nomatch h) (fun _ _ h => nomatch h) (fun x _ => ⟨40, e_spec_l02Dot R x.1.1 x.1.2.1 x.1.2.2 x.2.1.1 x.2.1.2.1 x.2.1.2.2⟩)

set_option maxRecDepth 100000 in
theorem e_impl_cross (M : FOps) (a0_0 : Nat) (a0_1 : Nat) (a0_2 : Nat) (a1_0 : Nat) (a1_1 : Nat) (a1_2 : Nat) : cwp M Tryz.prog (envOf []) (lamOf []) 40 (Tryz.f105.body.getD .skip) 0 (retK Tryz.prog Tryz.f105.results.toList (.cons (.agg (.pair (.fl .f32) (.pair (.fl .f32) (.fl .f32)))) .nil) 0) (initSt (.cons (.agg (.pair (.fl .f32) (.pair (.fl .f32) (.fl .f32)))) (.cons (.agg (.pair (.fl .f32) (.pair (.fl .f32) (.fl .f32)))) .nil)) ((a0_0, (a0_1, a0_2)), ((a1_0, (a1_1, a1_2)), ()))) = some (F_impl_cross (p_impl_cross M a0_0 a0_1 a0_2 a1_0 a1_1 a1_2)) := by kernel_rfl
theorem ok_impl_cross : OkFn Tryz.prog 105 (S_impl_cross R) :=
  okFn_of good_nil follows Tryz.func105 rfl (by decide) (by decide) lam_nil (m := 2) (fun _ => rfl) (by decide) (fun _ _ h => nomatch h) (fun _ _ h => nomatch h) (fun x _ => ⟨40, e_impl_cross R x.1.1 x.1.2.1 x.1.2.2 x.2.1.1 x.2.1.2.1 x.2.1.2.2⟩)

set_option maxRecDepth 100000 in
theorem e_spec_l02Cross (M : FOps) (a0_0 : Nat) (a0_1 : Nat) (a0_2 : Nat) (a1_0 : Nat) (a1_1 : Nat) (a1_2 : Nat) : cwp M Tryz.prog (envOf []) (lamOf []) 40 (Tryz.f135.body.getD .skip) 0 (retK Tryz.prog Tryz.f135.results.toList (.cons (.agg (.pair (.fl .f32) (.pair (.fl .f32) (.fl .f32)))) .nil) 0) (initSt (.cons (.agg (.pair (.fl .f32) (.pair (.fl .f32) (.fl .f32)))) (.cons (.agg (.pair (.fl .f32) (.pair (.fl .f32) (.fl .f32)))) .nil)) ((a0_0, (a0_1, a0_2)), ((a1_0, (a1_1, a1_2)), ()))) = some (F_spec_l02Cross (p_spec_l02Cross M a0_0 a0_1 a0_2 a1_0 a1_1 a1_2)) := by kernel_rfl
theorem ok_spec_l02Cross : OkFn Tryz.prog 135 (S_spec_l02Cross R) :=
  okFn_of good_nil follows Tryz.func135 rfl (by decide) (by decide) lam_nil (m := 2) (fun _ => rfl) (by decide) (fun _ _ h => nomatch h) (fun _ _ h => nomatch h) (fun x _ => ⟨40, e_spec_l02Cross R x.1.1 x.1.2.1 x.1.2.2 x.2.1.1 x.2.1.2.1 x.2.1.2.2⟩)

set_option maxRecDepth 100000 in
theorem e_spec_l02Add (M : FOps) (a0_0 : Nat) (a0_1 : Nat) (a0_2 : Nat) (a1_0 : Nat) (a1_1 : Nat) (a1_2 : Nat) : cwp M Tryz.prog (envOf []) (lamOf []) 40 (Tryz.f90.body.getD .skip) 0 (retK Tryz.prog Tryz.f90.results.toList (.cons (.agg (.pair (.fl .f32) (.pair (.fl .f32) (.fl .f32)))) .nil) 0) (initSt (.cons (.agg (.pair (.fl .f32) (.pair (.fl .f32) (.fl .f32)))) (.cons (.agg (.pair (.fl .f32) (.pair (.fl .f32) (.fl .f32)))) .nil)) ((a0_0, (a0_1, a0_2)), ((a1_0, (a1_1, a1_2)), ()))) = some (F_spec_l02Add (p_spec_l02Add M a0_0 a0_1 a0_2 a1_0 a1_1 a1_2)) := by kernel_rfl
theorem ok_spec_l02Add : OkFn Tryz.prog 90 (S_spec_l02Add R) :=
  okFn_of good_nil follows Tryz.func90 rfl (by decide) (by decide) lam_nil (m := 2) (fun _ => rfl) (by decide) (fun _ _ h => nomatch h) (fun _ _ h => nomatch h) (fun x _ => ⟨40, e_spec_l02Add R x.1.1 x.1.2.1 x.1.2.2 x.2.1.1 x.2.1.2.1 x.2.1.2.2⟩)

set_option maxRecDepth 100000 in
theorem e_impl_sumOf (M : FOps) (a0_0 : Nat) (a0_1 : Nat) (a0_2 : Nat) (a1 : Nat) (a2_0 : Nat) (a2_1 : Nat) (a2_2 : Nat) (a3 : Nat) : cwp M Tryz.prog (envOf []) (lamOf []) 40 (Tryz.f100.body.getD .skip) 0 (retK Tryz.prog Tryz.f100.results.toList (.cons (.agg (.pair (.fl .f32) (.pair (.fl .f32) (.fl .f32)))) .nil) 0) (initSt (.cons (.agg (.pair (.fl .f32) (.pair (.fl .f32) (.fl .f32)))) (.cons (.one (.fl .f32)) (.cons (.agg (.pair (.fl .f32) (.pair (.fl .f32) (.fl .f32)))) (.cons (.one (.fl .f32)) .nil)))) ((a0_0, (a0_1, a0_2)), (a1, ((a2_0, (a2_1, a2_2)), (a3, ()))))) = some (F_impl_sumOf (p_impl_sumOf M a0_0 a0_1 a0_2 a1 a2_0 a2_1 a2_2 a3)) := by kernel_rfl
theorem ok_impl_sumOf : OkFn Tryz.prog 100 (S_impl_sumOf R) :=
  okFn_of good_nil follows Tryz.func100 rfl (by decide) (by decide) lam_nil (m := 4) (fun _ => rfl) (by decide) (fun _ _ h => nomatch h) (fun _ _ h => nomatch h) (fun x _ => ⟨40, e_impl_sumOf R x.1.1 x.1.2.1 x.1.2.2 x.2.1 x.2.2.1.1 x.2.2.1.2.1 x.2.2.1.2.2 x.2.2.2.1⟩)

set_option maxRecDepth 100000 in
theorem e_spec_l02Times (M : FOps) (a0_0 : Nat) (a0_1 : Nat) (a0_2 : Nat) (a1 : Nat) : cwp M Tryz.prog (envOf []) (lamOf []) 40 (Tryz.f91.body.getD .skip) 0 (retK Tryz.prog Tryz.f91.results.toList (.cons (.agg (.pair (.fl .f32) (.pair (.fl .f32) (.fl .f32)))) .nil) 0) (initSt (.cons (.agg (.pair (.fl .f32) (.pair (.fl .f32) (.fl .f32)))) (.cons (.one (.fl .f32)) .nil)) ((a0_0, (a0_1, a0_2)), (a1, ()))) = some (F_spec_l02Times (p_spec_l02Times M a0_0 a0_1 a0_2 a1)) := by kernel_rfl
theorem ok_spec_l02Times : OkFn Tryz.prog 91 (S_spec_l02Times R) :=
  okFn_of good_nil follows Tryz.func91 rfl (by decide) (by decide) lam_nil (m := 2) (fun _ => rfl) (by decide) (fun _ _ h => nomatch h) (fun _ _ h => nomatch h) (fun x _ => ⟨40, e_spec_l02Times R x.1.1 x.1.2.1 x.1.2.2 x.2.1⟩)

set_option maxRecDepth 100000 in
theorem e_impl_Way_long (M : FOps) (a0_0 : Nat) (a0_1 : Nat) (a0_2 : Nat) : cwp M Tryz.prog (envOf [(107, S_impl_dotOf M), (153, S_impl_RootNumber M)]) (lamOf []) 40 (Tryz.f106.body.getD .skip) 0 (retK Tryz.prog Tryz.f106.results.toList (.cons (.one (.fl .f32)) .nil) 0) (initSt (.cons (.agg (.pair (.fl .f32) (.pair (.fl .f32) (.fl .f32)))) .nil) ((a0_0, (a0_1, a0_2)), ())) = some (F_impl_Way_long (p_impl_Way_long M a0_0 a0_1 a0_2)) := by kernel_rfl
theorem ok_impl_Way_long : OkFn Tryz.prog 106 (S_impl_Way_long R) :=
  okFn_of (good_cons ok_impl_dotOf (good_cons ok_impl_RootNumber good_nil)) follows Tryz.func106 rfl (by decide) (by decide) lam_nil (m := 1) (fun _ => rfl) (by decide) (fun _ _ h => nomatch h) (fun _ _ h => nomatch h) (fun x _ => ⟨40, e_impl_Way_long R x.1.1 x.1.2.1 x.1.2.2⟩)

set_option maxRecDepth 100000 in
theorem e_spec_l02Long (M : FOps) (a0_0 : Nat) (a0_1 : Nat) (a0_2 : Nat) : cwp M Tryz.prog (envOf [(136, S_spec_l02Dot M), (147, S_spec_l01Sqrt M)]) (lamOf []) 40 (Tryz.f134.body.getD .skip) 0 (retK Tryz.prog Tryz.f134.results.toList (.cons (.one (.fl .f32)) .nil) 0) (initSt (.cons (.agg (.pair (.fl .f32) (.pair (.fl .f32) (.fl .f32)))) .nil) ((a0_0, (a0_1, a0_2)), ())) = some (F_spec_l02Long (p_spec_l02Long M a0_0 a0_1 a0_2)) := by kernel_rfl
theorem ok_spec_l02Long : OkFn Tryz.prog 134 (S_spec_l02Long R) :=
  okFn_of (good_cons ok_spec_l02Dot (good_cons ok_spec_l01Sqrt good_nil)) follows Tryz.func134 rfl (by decide) (by decide) lam_nil (m := 1) (fun _ => rfl) (by decide) (fun _ _ h => nomatch h) (fun _ _ h => nomatch h) (fun x _ => ⟨40, e_spec_l02Long R x.1.1 x.1.2.1 x.1.2.2⟩)

set_option maxRecDepth 100000 in
theorem e_laws_sameFloat (M : FOps) (a0 : Nat) (a1 : Nat) : cwp M Tryz.prog (envOf []) (lamOf []) 40 (Tryz.f20.body.getD .skip) 0 (retK Tryz.prog Tryz.f20.results.toList (.cons (.one .bool) .nil) 0) (initSt (.cons (.one (.fl .f64)) (.cons (.one (.fl .f64)) .nil)) (a0, (a1, ()))) = some (F_laws_sameFloat (p_laws_sameFloat M a0 a1)) := 
  Eq.trans (b := (brT (M.cmp BinOp.neq FloatKind.f64 a0 a0) (brT (M.cmp BinOp.neq FloatKind.f64 a0 a0) (some (F_laws_sameFloat (M.cmp BinOp.neq FloatKind.f64 a1 a1))) (some (F_laws_sameFloat (false)))) (brT (M.cmp BinOp.neq FloatKind.f64 a1 a1) (brT (M.cmp BinOp.neq FloatKind.f64 a0 a0) (some (F_laws_sameFloat (M.cmp BinOp.neq FloatKind.f64 a1 a1))) (some (F_laws_sameFloat (false)))) (brT (M.cmp BinOp.eql FloatKind.f64 a0 0) (brT (M.cmp BinOp.eql FloatKind.f64 a1 0) (some (F_laws_sameFloat (M.cmp BinOp.gtr FloatKind.f64 (M.bin BinOp.quo FloatKind.f64 4607182418800017408 a0) 0 == M.cmp BinOp.gtr FloatKind.f64 (M.bin BinOp.quo FloatKind.f64 4607182418800017408 a1) 0))) (some (F_laws_sameFloat (M.cmp BinOp.eql FloatKind.f64 a0 a1)))) (some (F_laws_sameFloat (M.cmp BinOp.eql FloatKind.f64 a0 a1))))))) (by kernel_rfl)
    ((push2 (push2 rfl rfl) (push2 (push2 rfl rfl) (push2 (push2 rfl rfl) rfl))))
theorem ok_laws_sameFloat : OkFn Tryz.prog 20 (S_laws_sameFloat R) :=
  okFn_of good_nil follows Tryz.func20 rfl (by decide) (by decide) lam_nil (m := 2) (fun _ => rfl) (by decide) (fun _ _ h => nomatch h) (fun _ _ h => nomatch h) (fun x _ => ⟨40, e_laws_sameFloat R x.1 x.2.1⟩)

set_option maxRecDepth 100000 in
theorem e_laws_toPlace (M : FOps) (a0_0 : Nat) (a0_1 : Nat) : cwp M Tryz.prog (envOf []) (lamOf []) 40 (Tryz.f14.body.getD .skip) 0 (retK Tryz.prog Tryz.f14.results.toList (.cons (.agg (.pair (.fl .f32) (.fl .f32))) .nil) 0) (initSt (.cons (.agg (.pair (.fl .f32) (.fl .f32))) .nil) ((a0_0, a0_1), ())) = some (F_laws_toPlace (p_laws_toPlace M a0_0 a0_1)) := by kernel_rfl
theorem ok_laws_toPlace : OkFn Tryz.prog 14 (S_laws_toPlace R) :=
  okFn_of good_nil follows Tryz.func14 rfl (by decide) (by decide) lam_nil (m := 1) (fun _ => rfl) (by decide) (fun _ _ h => nomatch h) (fun _ _ h => nomatch h) (fun x _ => ⟨40, e_laws_toPlace R x.1.1 x.1.2⟩)

end Go.Proofs.YtbgpobiaaebbeaaGreat
