/- Printed by gen2.py. -/
import Derived.Test.YthploccngbfmpaaGreatYg
set_option linter.unusedVariables false
set_option linter.unusedSimpArgs false

-- GENERATED BELOW (gen.py)
namespace Go.Proofs.YthploccngbfmpaaGreat
open Go Go.Cv Go.Dv
set_option maxRecDepth 100000 in
theorem e_impl_SineTurns (M : FOps) (a0 : Nat) (h : r_impl_SineTurns M a0 = true) : cwp M Tryz.prog (envOf [(174, S_impl_isFinite M), (159, S_math_NaN M), (151, un64 M.abs), (194, S_impl_sine M)]) (lamOf []) 40 (Tryz.f168.body.getD .skip) 0 (retK Tryz.prog Tryz.f168.results.toList (.cons (.one (.fl .f32)) .nil) 0) (initSt (.cons (.one (.fl .f32)) .nil) (a0, ())) = some (F_impl_SineTurns (p_impl_SineTurns M a0)) := 
  Eq.trans (b := (brT (!p_impl_isFinite M (c0_impl_SineTurns M a0)) (brT (M.narOk (c1_impl_SineTurns M a0)) (some (F_impl_SineTurns (M.nar (c1_impl_SineTurns M a0)))) none) (brT (M.cmp BinOp.geq FloatKind.f64 (M.abs (c0_impl_SineTurns M a0)) 4841369599423283200) (some (F_impl_SineTurns (0))) (brT (M.narOk (c2_impl_SineTurns M a0)) (some (F_impl_SineTurns (M.nar (c2_impl_SineTurns M a0)))) none)))) (by kernel_rfl)
    ((pushR (pushL (fun _ => rfl)) (pushR (fun _ => rfl) (pushL (fun _ => rfl)))) h)
theorem ok_impl_SineTurns : OkFn Tryz.prog 168 (S_impl_SineTurns R) :=
  okFn_of (good_cons ok_impl_isFinite (good_cons ok_math_NaN (good_cons ok_Abs (good_cons ok_impl_sine good_nil)))) follows Tryz.func168 rfl (by decide) (by decide) lam_nil (m := 1) (fun _ => rfl) (by decide) (fun _ _ h => nomatch h) (fun _ _ h => nomatch h) (fun x _ => ⟨40, e_impl_SineTurns R x.1 (rr_impl_SineTurns x.1)⟩)

set_option maxRecDepth 100000 in
theorem e_impl_cosine (M : FOps) (a0 : Nat) : cwp M Tryz.prog (envOf [(168, S_impl_SineTurns M)]) (lamOf []) 40 (Tryz.f139.body.getD .skip) 0 (retK Tryz.prog Tryz.f139.results.toList (.cons (.one (.fl .f32)) .nil) 0) (initSt (.cons (.one (.fl .f32)) .nil) (a0, ())) = some (F_impl_cosine (p_impl_cosine M a0)) := by kernel_rfl
theorem ok_impl_cosine : OkFn Tryz.prog 139 (S_impl_cosine R) :=
  okFn_of (good_cons ok_impl_SineTurns good_nil) follows Tryz.func139 rfl (by decide) (by decide) lam_nil (m := 1) (fun _ => rfl) (by decide) (fun _ _ h => nomatch h) (fun _ _ h => nomatch h) (fun x _ => ⟨40, e_impl_cosine R x.1⟩)

set_option maxRecDepth 100000 in
theorem e_spec_l01Sine (M : FOps) (a0 : Nat) (h : r_spec_l01Sine M a0 = true) : cwp M Tryz.prog (envOf [(124, S_spec_l01Narrow M), (161, S_spec_l01SineWide M)]) (lamOf []) 40 (Tryz.f114.body.getD .skip) 0 (retK Tryz.prog Tryz.f114.results.toList (.cons (.one (.fl .f32)) .nil) 0) (initSt (.cons (.one (.fl .f32)) .nil) (a0, ())) = some (F_spec_l01Sine (p_spec_l01Sine M a0)) := 
  Eq.trans (b := (brT (r_spec_l01Narrow M (c0_spec_l01Sine M a0)) (some (F_spec_l01Sine (p_spec_l01Narrow M (c0_spec_l01Sine M a0)))) none)) (by kernel_rfl)
    ((pushL (fun _ => rfl)) h)
theorem ok_spec_l01Sine : OkFn Tryz.prog 114 (S_spec_l01Sine R) :=
  okFn_of (good_cons ok_spec_l01Narrow (good_cons ok_spec_l01SineWide good_nil)) follows Tryz.func114 rfl (by decide) (by decide) lam_nil (m := 1) (fun _ => rfl) (by decide) (fun _ _ h => nomatch h) (fun _ _ h => nomatch h) (fun x _ => ⟨40, e_spec_l01Sine R x.1 (rr_spec_l01Sine x.1)⟩)

set_option maxRecDepth 100000 in
theorem e_spec_l02Cosine (M : FOps) (a0 : Nat) : cwp M Tryz.prog (envOf [(114, S_spec_l01Sine M)]) (lamOf []) 40 (Tryz.f111.body.getD .skip) 0 (retK Tryz.prog Tryz.f111.results.toList (.cons (.one (.fl .f32)) .nil) 0) (initSt (.cons (.one (.fl .f32)) .nil) (a0, ())) = some (F_spec_l02Cosine (p_spec_l02Cosine M a0)) := by kernel_rfl
theorem ok_spec_l02Cosine : OkFn Tryz.prog 111 (S_spec_l02Cosine R) :=
  okFn_of (good_cons ok_spec_l01Sine good_nil) follows Tryz.func111 rfl (by decide) (by decide) lam_nil (m := 1) (fun _ => rfl) (by decide) (fun _ _ h => nomatch h) (fun _ _ h => nomatch h) (fun x _ => ⟨40, e_spec_l02Cosine R x.1⟩)

set_option maxRecDepth 100000 in
theorem e_spec_l01Angle (M : FOps) (a0 : Nat) (a1 : Nat) (h : r_spec_l01Angle M a0 a1 = true) : cwp M Tryz.prog (envOf [(124, S_spec_l01Narrow M), (143, S_spec_l01AngleWide M)]) (lamOf []) 40 (Tryz.f119.body.getD .skip) 0 (retK Tryz.prog Tryz.f119.results.toList (.cons (.one (.fl .f32)) .nil) 0) (initSt (.cons (.one (.fl .f32)) (.cons (.one (.fl .f32)) .nil)) (a0, (a1, ()))) = some (F_spec_l01Angle (p_spec_l01Angle M a0 a1)) := 
  Eq.trans (b := (brT (r_spec_l01Narrow M (c0_spec_l01Angle M a0 a1)) (some (F_spec_l01Angle (p_spec_l01Narrow M (c0_spec_l01Angle M a0 a1)))) none)) (by kernel_rfl)
    ((pushL (fun _ => rfl)) h)
theorem ok_spec_l01Angle : OkFn Tryz.prog 119 (S_spec_l01Angle R) :=
  okFn_of (good_cons ok_spec_l01Narrow (good_cons ok_spec_l01AngleWide good_nil)) follows Tryz.func119 rfl (by decide) (by decide) lam_nil (m := 2) (fun _ => rfl) (by decide) (fun _ _ h => nomatch h) (fun _ _ h => nomatch h) (fun x _ => ⟨40, e_spec_l01Angle R x.1 x.2.1 (rr_spec_l01Angle x.1 x.2.1)⟩)

set_option maxRecDepth 100000 in
theorem e_impl_Place_way (M : FOps) (a0_0 : Nat) (a0_1 : Nat) : cwp M Tryz.prog (envOf [(168, S_impl_SineTurns M), (139, S_impl_cosine M)]) (lamOf []) 40 (Tryz.f129.body.getD .skip) 0 (retK Tryz.prog Tryz.f129.results.toList (.cons (.agg (.pair (.fl .f32) (.pair (.fl .f32) (.fl .f32)))) .nil) 0) (initSt (.cons (.agg (.pair (.fl .f32) (.fl .f32))) .nil) ((a0_0, a0_1), ())) = some (F_impl_Place_way (p_impl_Place_way M a0_0 a0_1)) := by kernel_rfl
theorem ok_impl_Place_way : OkFn Tryz.prog 129 (S_impl_Place_way R) :=
  okFn_of (good_cons ok_impl_SineTurns (good_cons ok_impl_cosine good_nil)) follows Tryz.func129 rfl (by decide) (by decide) lam_nil (m := 1) (fun _ => rfl) (by decide) (fun _ _ h => nomatch h) (fun _ _ h => nomatch h) (fun x _ => ⟨40, e_impl_Place_way R x.1.1 x.1.2⟩)

set_option maxRecDepth 100000 in
theorem e_spec_l02Way (M : FOps) (a0_0 : Nat) (a0_1 : Nat) : cwp M Tryz.prog (envOf [(111, S_spec_l02Cosine M), (114, S_spec_l01Sine M)]) (lamOf []) 40 (Tryz.f118.body.getD .skip) 0 (retK Tryz.prog Tryz.f118.results.toList (.cons (.agg (.pair (.fl .f32) (.pair (.fl .f32) (.fl .f32)))) .nil) 0) (initSt (.cons (.agg (.pair (.fl .f32) (.fl .f32))) .nil) ((a0_0, a0_1), ())) = some (F_spec_l02Way (p_spec_l02Way M a0_0 a0_1)) := by kernel_rfl
theorem ok_spec_l02Way : OkFn Tryz.prog 118 (S_spec_l02Way R) :=
  okFn_of (good_cons ok_spec_l02Cosine (good_cons ok_spec_l01Sine good_nil)) follows Tryz.func118 rfl (by decide) (by decide) lam_nil (m := 1) (fun _ => rfl) (by decide) (fun _ _ h => nomatch h) (fun _ _ h => nomatch h) (fun x _ => ⟨40, e_spec_l02Way R x.1.1 x.1.2⟩)

set_option maxRecDepth 100000 in
theorem e_impl_apart (M : FOps) (a0_0 : Nat) (a0_1 : Nat) (a1_0 : Nat) (a1_1 : Nat) : cwp M Tryz.prog (envOf [(129, S_impl_Place_way M), (131, S_impl_cross M), (133, S_impl_dotOf M), (130, S_impl_AngleTurns M), (132, S_impl_Way_long M)]) (lamOf []) 40 (Tryz.f65.body.getD .skip) 0 (retK Tryz.prog Tryz.f65.results.toList (.cons (.one (.fl .f32)) .nil) 0) (initSt (.cons (.agg (.pair (.fl .f32) (.fl .f32))) (.cons (.agg (.pair (.fl .f32) (.fl .f32))) .nil)) ((a0_0, a0_1), ((a1_0, a1_1), ()))) = some (F_impl_apart (p_impl_apart M a0_0 a0_1 a1_0 a1_1)) := by kernel_rfl
theorem ok_impl_apart : OkFn Tryz.prog 65 (S_impl_apart R) :=
  okFn_of (good_cons ok_impl_Place_way (good_cons ok_impl_cross (good_cons ok_impl_dotOf (good_cons ok_impl_AngleTurns (good_cons ok_impl_Way_long good_nil))))) follows Tryz.func65 rfl (by decide) (by decide) lam_nil (m := 2) (fun _ => rfl) (by decide) (fun _ _ h => nomatch h) (fun _ _ h => nomatch h) (fun x _ => ⟨40, e_impl_apart R x.1.1 x.1.2 x.2.1.1 x.2.1.2⟩)

set_option maxRecDepth 100000 in
theorem e_spec_l02Apart (M : FOps) (a0_0 : Nat) (a0_1 : Nat) (a1_0 : Nat) (a1_1 : Nat) : cwp M Tryz.prog (envOf [(118, S_spec_l02Way M), (121, S_spec_l02Cross M), (122, S_spec_l02Dot M), (119, S_spec_l01Angle M), (120, S_spec_l02Long M)]) (lamOf []) 40 (Tryz.f61.body.getD .skip) 0 (retK Tryz.prog Tryz.f61.results.toList (.cons (.one (.fl .f32)) .nil) 0) (initSt (.cons (.agg (.pair (.fl .f32) (.fl .f32))) (.cons (.agg (.pair (.fl .f32) (.fl .f32))) .nil)) ((a0_0, a0_1), ((a1_0, a1_1), ()))) = some (F_spec_l02Apart (p_spec_l02Apart M a0_0 a0_1 a1_0 a1_1)) := by kernel_rfl
theorem ok_spec_l02Apart : OkFn Tryz.prog 61 (S_spec_l02Apart R) :=
  okFn_of (good_cons ok_spec_l02Way (good_cons ok_spec_l02Cross (good_cons ok_spec_l02Dot (good_cons ok_spec_l01Angle (good_cons ok_spec_l02Long good_nil))))) follows Tryz.func61 rfl (by decide) (by decide) lam_nil (m := 2) (fun _ => rfl) (by decide) (fun _ _ h => nomatch h) (fun _ _ h => nomatch h) (fun x _ => ⟨40, e_spec_l02Apart R x.1.1 x.1.2 x.2.1.1 x.2.1.2⟩)

set_option maxRecDepth 100000 in
theorem e_impl_course (M : FOps) (a0_0 : Nat) (a0_1 : Nat) (a1_0 : Nat) (a1_1 : Nat) : cwp M Tryz.prog (envOf [(168, S_impl_SineTurns M), (139, S_impl_cosine M), (188, S_impl_positive M), (130, S_impl_AngleTurns M)]) (lamOf []) 40 (Tryz.f156.body.getD .skip) 0 (retK Tryz.prog Tryz.f156.results.toList (.cons (.one (.fl .f32)) .nil) 0) (initSt (.cons (.agg (.pair (.fl .f32) (.fl .f32))) (.cons (.agg (.pair (.fl .f32) (.fl .f32))) .nil)) ((a0_0, a0_1), ((a1_0, a1_1), ()))) = some (F_impl_course (p_impl_course M a0_0 a0_1 a1_0 a1_1)) := by kernel_rfl
theorem ok_impl_course : OkFn Tryz.prog 156 (S_impl_course R) :=
  okFn_of (good_cons ok_impl_SineTurns (good_cons ok_impl_cosine (good_cons ok_impl_positive (good_cons ok_impl_AngleTurns good_nil)))) follows Tryz.func156 rfl (by decide) (by decide) lam_nil (m := 2) (fun _ => rfl) (by decide) (fun _ _ h => nomatch h) (fun _ _ h => nomatch h) (fun x _ => ⟨40, e_impl_course R x.1.1 x.1.2 x.2.1.1 x.2.1.2⟩)

set_option maxRecDepth 100000 in
theorem e_spec_l02Course (M : FOps) (a0_0 : Nat) (a0_1 : Nat) (a1_0 : Nat) (a1_1 : Nat) : cwp M Tryz.prog (envOf [(162, S_spec_l02Above0 M), (119, S_spec_l01Angle M), (111, S_spec_l02Cosine M), (114, S_spec_l01Sine M)]) (lamOf []) 40 (Tryz.f115.body.getD .skip) 0 (retK Tryz.prog Tryz.f115.results.toList (.cons (.one (.fl .f32)) .nil) 0) (initSt (.cons (.agg (.pair (.fl .f32) (.fl .f32))) (.cons (.agg (.pair (.fl .f32) (.fl .f32))) .nil)) ((a0_0, a0_1), ((a1_0, a1_1), ()))) = some (F_spec_l02Course (p_spec_l02Course M a0_0 a0_1 a1_0 a1_1)) := by kernel_rfl
theorem ok_spec_l02Course : OkFn Tryz.prog 115 (S_spec_l02Course R) :=
  okFn_of (good_cons ok_spec_l02Above0 (good_cons ok_spec_l01Angle (good_cons ok_spec_l02Cosine (good_cons ok_spec_l01Sine good_nil)))) follows Tryz.func115 rfl (by decide) (by decide) lam_nil (m := 2) (fun _ => rfl) (by decide) (fun _ _ h => nomatch h) (fun _ _ h => nomatch h) (fun x _ => ⟨40, e_spec_l02Course R x.1.1 x.1.2 x.2.1.1 x.2.1.2⟩)

set_option maxRecDepth 100000 in
theorem e_spec_CourseTo (M : FOps) (a0_0 : Nat) (a0_1 : Nat) (a1_0 : Nat) (a1_1 : Nat) : cwp M Tryz.prog (envOf [(62, S_spec_l02Number M), (182, S_spec_l02Two M), (115, S_spec_l02Course M)]) (lamOf []) 40 (Tryz.f152.body.getD .skip) 0 (retK Tryz.prog Tryz.f152.results.toList (.cons (.one (.fl .f32)) (.cons (.one .bool) .nil)) 0) (initSt (.cons (.agg (.pair (.fl .f32) (.fl .f32))) (.cons (.agg (.pair (.fl .f32) (.fl .f32))) .nil)) ((a0_0, a0_1), ((a1_0, a1_1), ()))) = some (F_spec_CourseTo (p_spec_CourseTo M a0_0 a0_1 a1_0 a1_1)) := 
  Eq.trans (b := (brT (!p_spec_l02Two M a0_0 a0_1 a1_0 a1_1) (some (F_spec_CourseTo ((0, false)))) (some (F_spec_CourseTo (((c0_spec_CourseTo M a0_0 a0_1 a1_0 a1_1).fst, (c0_spec_CourseTo M a0_0 a0_1 a1_0 a1_1).snd)))))) (by kernel_rfl)
    ((push2 rfl rfl))
theorem ok_spec_CourseTo : OkFn Tryz.prog 152 (S_spec_CourseTo R) :=
  okFn_of (good_cons ok_spec_l02Number (good_cons ok_spec_l02Two (good_cons ok_spec_l02Course good_nil))) follows Tryz.func152 rfl (by decide) (by decide) lam_nil (m := 2) (fun _ => rfl) (by decide) (fun _ _ h => nomatch h) (fun _ _ h => nomatch h) (fun x _ => ⟨40, e_spec_CourseTo R x.1.1 x.1.2 x.2.1.1 x.2.1.2⟩)

set_option maxRecDepth 100000 in
theorem e_spec_ApartOf (M : FOps) (a0_0 : Nat) (a0_1 : Nat) (a1_0 : Nat) (a1_1 : Nat) : cwp M Tryz.prog (envOf [(62, S_spec_l02Number M), (182, S_spec_l02Two M), (61, S_spec_l02Apart M)]) (lamOf []) 40 (Tryz.f153.body.getD .skip) 0 (retK Tryz.prog Tryz.f153.results.toList (.cons (.one (.fl .f32)) (.cons (.one .bool) .nil)) 0) (initSt (.cons (.agg (.pair (.fl .f32) (.fl .f32))) (.cons (.agg (.pair (.fl .f32) (.fl .f32))) .nil)) ((a0_0, a0_1), ((a1_0, a1_1), ()))) = some (F_spec_ApartOf (p_spec_ApartOf M a0_0 a0_1 a1_0 a1_1)) := 
  Eq.trans (b := (brT (!p_spec_l02Two M a0_0 a0_1 a1_0 a1_1) (some (F_spec_ApartOf ((0, false)))) (some (F_spec_ApartOf (((c0_spec_ApartOf M a0_0 a0_1 a1_0 a1_1).fst, (c0_spec_ApartOf M a0_0 a0_1 a1_0 a1_1).snd)))))) (by kernel_rfl)
    ((push2 rfl rfl))
theorem ok_spec_ApartOf : OkFn Tryz.prog 153 (S_spec_ApartOf R) :=
  okFn_of (good_cons ok_spec_l02Number (good_cons ok_spec_l02Two (good_cons ok_spec_l02Apart good_nil))) follows Tryz.func153 rfl (by decide) (by decide) lam_nil (m := 2) (fun _ => rfl) (by decide) (fun _ _ h => nomatch h) (fun _ _ h => nomatch h) (fun x _ => ⟨40, e_spec_ApartOf R x.1.1 x.1.2 x.2.1.1 x.2.1.2⟩)

set_option maxRecDepth 100000 in
theorem e_impl_isWay (M : FOps) (a0_0 : Nat) (a0_1 : Nat) (a0_2 : Nat) : cwp M Tryz.prog (envOf [(98, S_impl_areFinite M)]) (lamOf []) 40 (Tryz.f206.body.getD .skip) 0 (retK Tryz.prog Tryz.f206.results.toList (.cons (.one .bool) .nil) 0) (initSt (.cons (.agg (.pair (.fl .f32) (.pair (.fl .f32) (.fl .f32)))) .nil) ((a0_0, (a0_1, a0_2)), ())) = some (F_impl_isWay (p_impl_isWay M a0_0 a0_1 a0_2)) := by kernel_rfl
theorem ok_impl_isWay : OkFn Tryz.prog 206 (S_impl_isWay R) :=
  okFn_of (good_cons ok_impl_areFinite good_nil) follows Tryz.func206 rfl (by decide) (by decide) lam_nil (m := 1) (fun _ => rfl) (by decide) (fun _ _ h => nomatch h) (fun _ _ h => nomatch h) (fun x _ => ⟨40, e_impl_isWay R x.1.1 x.1.2.1 x.1.2.2⟩)

set_option maxRecDepth 100000 in
theorem e_impl_LongOfWay (M : FOps) (a0_0 : Nat) (a0_1 : Nat) (a0_2 : Nat) : cwp M Tryz.prog (envOf [(66, S_impl_finite M), (133, S_impl_dotOf M), (134, S_impl_IsFinite M), (132, S_impl_Way_long M), (206, S_impl_isWay M)]) (lamOf []) 40 (Tryz.f203.body.getD .skip) 0 (retK Tryz.prog Tryz.f203.results.toList (.cons (.one (.fl .f32)) (.cons (.one .bool) .nil)) 0) (initSt (.cons (.agg (.pair (.fl .f32) (.pair (.fl .f32) (.fl .f32)))) .nil) ((a0_0, (a0_1, a0_2)), ())) = some (F_impl_LongOfWay (p_impl_LongOfWay M a0_0 a0_1 a0_2)) := 
  Eq.trans (b := (brT (p_impl_isWay M a0_0 a0_1 a0_2) (some (F_impl_LongOfWay (((c0_impl_LongOfWay M a0_0 a0_1 a0_2).fst, (c0_impl_LongOfWay M a0_0 a0_1 a0_2).snd)))) (some (F_impl_LongOfWay (((c1_impl_LongOfWay M a0_0 a0_1 a0_2).fst, (c1_impl_LongOfWay M a0_0 a0_1 a0_2).snd)))))) (by kernel_rfl)
    ((push2 rfl rfl))
theorem ok_impl_LongOfWay : OkFn Tryz.prog 203 (S_impl_LongOfWay R) :=
  okFn_of (good_cons ok_impl_finite (good_cons ok_impl_dotOf (good_cons ok_impl_IsFinite (good_cons ok_impl_Way_long (good_cons ok_impl_isWay good_nil))))) follows Tryz.func203 rfl (by decide) (by decide) lam_nil (m := 1) (fun _ => rfl) (by decide) (fun _ _ h => nomatch h) (fun _ _ h => nomatch h) (fun x _ => ⟨40, e_impl_LongOfWay R x.1.1 x.1.2.1 x.1.2.2⟩)

set_option maxRecDepth 100000 in
theorem e_impl_PlaceOfWay (M : FOps) (a0_0 : Nat) (a0_1 : Nat) (a0_2 : Nat) : cwp M Tryz.prog (envOf [(130, S_impl_AngleTurns M), (85, S_impl_wrap M), (203, S_impl_LongOfWay M), (173, S_impl_RootNumber M), (84, S_impl_valid M)]) (lamOf []) 40 (Tryz.f187.body.getD .skip) 0 (retK Tryz.prog Tryz.f187.results.toList (.cons (.agg (.pair (.fl .f32) (.fl .f32))) (.cons (.one .bool) .nil)) 0) (initSt (.cons (.agg (.pair (.fl .f32) (.pair (.fl .f32) (.fl .f32)))) .nil) ((a0_0, (a0_1, a0_2)), ())) = some (F_impl_PlaceOfWay (p_impl_PlaceOfWay M a0_0 a0_1 a0_2)) := 
  Eq.trans (b := (brT (!(c0_impl_PlaceOfWay M a0_0 a0_1 a0_2).snd) (some (F_impl_PlaceOfWay ((0, 0, false)))) (brT (!M.cmp BinOp.gtr FloatKind.f32 (c0_impl_PlaceOfWay M a0_0 a0_1 a0_2).fst 0) (some (F_impl_PlaceOfWay ((0, 0, false)))) (some (F_impl_PlaceOfWay (((c1_impl_PlaceOfWay M a0_0 a0_1 a0_2).fst, (c1_impl_PlaceOfWay M a0_0 a0_1 a0_2).snd.fst, (c1_impl_PlaceOfWay M a0_0 a0_1 a0_2).snd.snd))))))) (by kernel_rfl)
    ((push2 rfl (push2 rfl rfl)))
theorem ok_impl_PlaceOfWay : OkFn Tryz.prog 187 (S_impl_PlaceOfWay R) :=
  okFn_of (good_cons ok_impl_AngleTurns (good_cons ok_impl_wrap (good_cons ok_impl_LongOfWay (good_cons ok_impl_RootNumber (good_cons ok_impl_valid good_nil))))) follows Tryz.func187 rfl (by decide) (by decide) lam_nil (m := 1) (fun _ => rfl) (by decide) (fun _ _ h => nomatch h) (fun _ _ h => nomatch h) (fun x _ => ⟨40, e_impl_PlaceOfWay R x.1.1 x.1.2.1 x.1.2.2⟩)

set_option maxRecDepth 100000 in
theorem e_spec_l02From (M : FOps) (a0_0 : Nat) (a0_1 : Nat) (a0_2 : Nat) : cwp M Tryz.prog (envOf [(119, S_spec_l01Angle M), (80, S_spec_l02Wrap M), (120, S_spec_l02Long M), (200, S_spec_l02Ways M), (201, S_spec_l02Above M), (164, S_spec_l01Sqrt M), (202, S_spec_l02Give M)]) (lamOf []) 40 (Tryz.f185.body.getD .skip) 0 (retK Tryz.prog Tryz.f185.results.toList (.cons (.agg (.pair (.fl .f32) (.fl .f32))) (.cons (.one .bool) .nil)) 0) (initSt (.cons (.agg (.pair (.fl .f32) (.pair (.fl .f32) (.fl .f32)))) .nil) ((a0_0, (a0_1, a0_2)), ())) = some (F_spec_l02From (p_spec_l02From M a0_0 a0_1 a0_2)) := 
  Eq.trans (b := (brT (!p_spec_l02Ways M a0_0 a0_1 a0_2) (some (F_spec_l02From ((0, 0, false)))) (brT (!p_spec_l02Above M (p_spec_l02Long M a0_0 a0_1 a0_2)) (some (F_spec_l02From ((0, 0, false)))) (some (F_spec_l02From (((c0_spec_l02From M a0_0 a0_1 a0_2).fst, (c0_spec_l02From M a0_0 a0_1 a0_2).snd.fst, (c0_spec_l02From M a0_0 a0_1 a0_2).snd.snd))))))) (by kernel_rfl)
    ((push2 rfl (push2 rfl rfl)))
theorem ok_spec_l02From : OkFn Tryz.prog 185 (S_spec_l02From R) :=
  okFn_of (good_cons ok_spec_l01Angle (good_cons ok_spec_l02Wrap (good_cons ok_spec_l02Long (good_cons ok_spec_l02Ways (good_cons ok_spec_l02Above (good_cons ok_spec_l01Sqrt (good_cons ok_spec_l02Give good_nil))))))) follows Tryz.func185 rfl (by decide) (by decide) lam_nil (m := 1) (fun _ => rfl) (by decide) (fun _ _ h => nomatch h) (fun _ _ h => nomatch h) (fun x _ => ⟨40, e_spec_l02From R x.1.1 x.1.2.1 x.1.2.2⟩)

set_option maxRecDepth 100000 in
theorem e_impl_GoFrom (M : FOps) (a0_0 : Nat) (a0_1 : Nat) (a1 : Nat) (a2 : Nat) : cwp M Tryz.prog (envOf [(187, S_impl_PlaceOfWay M), (129, S_impl_Place_way M), (127, S_impl_ValidPlace M), (98, S_impl_areFinite M), (168, S_impl_SineTurns M), (139, S_impl_cosine M), (186, S_impl_sumOf M)]) (lamOf []) 40 (Tryz.f155.body.getD .skip) 0 (retK Tryz.prog Tryz.f155.results.toList (.cons (.agg (.pair (.fl .f32) (.fl .f32))) (.cons (.one .bool) .nil)) 0) (initSt (.cons (.agg (.pair (.fl .f32) (.fl .f32))) (.cons (.one (.fl .f32)) (.cons (.one (.fl .f32)) .nil))) ((a0_0, a0_1), (a1, (a2, ())))) = some (F_impl_GoFrom (p_impl_GoFrom M a0_0 a0_1 a1 a2)) := 
  Eq.trans (b := (brT (!p_impl_ValidPlace M a0_0 a0_1) (some (F_impl_GoFrom ((0, 0, false)))) (brT (!(p_impl_IsFinite M a1 && (p_impl_IsFinite M a2 && true))) (some (F_impl_GoFrom ((0, 0, false)))) (some (F_impl_GoFrom (((c5_impl_GoFrom M a0_0 a0_1 a1 a2).fst, (c5_impl_GoFrom M a0_0 a0_1 a1 a2).snd.fst, (c5_impl_GoFrom M a0_0 a0_1 a1 a2).snd.snd))))))) (by kernel_rfl)
    ((push2 rfl (push2 rfl rfl)))
theorem ok_impl_GoFrom : OkFn Tryz.prog 155 (S_impl_GoFrom R) :=
  okFn_of (good_cons ok_impl_PlaceOfWay (good_cons ok_impl_Place_way (good_cons ok_impl_ValidPlace (good_cons ok_impl_areFinite (good_cons ok_impl_SineTurns (good_cons ok_impl_cosine (good_cons ok_impl_sumOf good_nil))))))) follows Tryz.func155 rfl (by decide) (by decide) lam_nil (m := 3) (fun _ => rfl) (by decide) (fun _ _ h => nomatch h) (fun _ _ h => nomatch h) (fun x _ => ⟨40, e_impl_GoFrom R x.1.1 x.1.2 x.2.1 x.2.2.1⟩)

set_option maxRecDepth 100000 in
theorem e_spec_l02Go (M : FOps) (a0_0 : Nat) (a0_1 : Nat) (a1 : Nat) (a2 : Nat) : cwp M Tryz.prog (envOf [(185, S_spec_l02From M), (183, S_spec_l02Add M), (118, S_spec_l02Way M), (111, S_spec_l02Cosine M), (114, S_spec_l01Sine M), (184, S_spec_l02Times M)]) (lamOf []) 40 (Tryz.f154.body.getD .skip) 0 (retK Tryz.prog Tryz.f154.results.toList (.cons (.agg (.pair (.fl .f32) (.fl .f32))) (.cons (.one .bool) .nil)) 0) (initSt (.cons (.agg (.pair (.fl .f32) (.fl .f32))) (.cons (.one (.fl .f32)) (.cons (.one (.fl .f32)) .nil))) ((a0_0, a0_1), (a1, (a2, ())))) = some (F_spec_l02Go (p_spec_l02Go M a0_0 a0_1 a1 a2)) := by kernel_rfl
theorem ok_spec_l02Go : OkFn Tryz.prog 154 (S_spec_l02Go R) :=
  okFn_of (good_cons ok_spec_l02From (good_cons ok_spec_l02Add (good_cons ok_spec_l02Way (good_cons ok_spec_l02Cosine (good_cons ok_spec_l01Sine (good_cons ok_spec_l02Times good_nil)))))) follows Tryz.func154 rfl (by decide) (by decide) lam_nil (m := 3) (fun _ => rfl) (by decide) (fun _ _ h => nomatch h) (fun _ _ h => nomatch h) (fun x _ => ⟨40, e_spec_l02Go R x.1.1 x.1.2 x.2.1 x.2.2.1⟩)

set_option maxRecDepth 100000 in
theorem e_impl_ShareOfWay (M : FOps) (a0_0 : Nat) (a0_1 : Nat) (a1_0 : Nat) (a1_1 : Nat) (a2 : Nat) : cwp M Tryz.prog (envOf [(155, S_impl_GoFrom M), (149, S_impl_areValid M), (65, S_impl_apart M), (134, S_impl_IsFinite M), (156, S_impl_course M)]) (lamOf []) 40 (Tryz.f104.body.getD .skip) 0 (retK Tryz.prog Tryz.f104.results.toList (.cons (.agg (.pair (.fl .f32) (.fl .f32))) (.cons (.one .bool) .nil)) 0) (initSt (.cons (.agg (.pair (.fl .f32) (.fl .f32))) (.cons (.agg (.pair (.fl .f32) (.fl .f32))) (.cons (.one (.fl .f32)) .nil))) ((a0_0, a0_1), ((a1_0, a1_1), (a2, ())))) = some (F_impl_ShareOfWay (p_impl_ShareOfWay M a0_0 a0_1 a1_0 a1_1 a2)) := 
  Eq.trans (b := (brT (!(p_impl_ValidPlace M a0_0 a0_1 && (p_impl_ValidPlace M a1_0 a1_1 && true))) (some (F_impl_ShareOfWay ((0, 0, false)))) (brT (!p_impl_IsFinite M a2) (some (F_impl_ShareOfWay ((0, 0, false)))) (some (F_impl_ShareOfWay (((c0_impl_ShareOfWay M a0_0 a0_1 a1_0 a1_1 a2).fst, (c0_impl_ShareOfWay M a0_0 a0_1 a1_0 a1_1 a2).snd.fst, (c0_impl_ShareOfWay M a0_0 a0_1 a1_0 a1_1 a2).snd.snd))))))) (by kernel_rfl)
    ((push2 rfl (push2 rfl rfl)))
theorem ok_impl_ShareOfWay : OkFn Tryz.prog 104 (S_impl_ShareOfWay R) :=
  okFn_of (good_cons ok_impl_GoFrom (good_cons ok_impl_areValid (good_cons ok_impl_apart (good_cons ok_impl_IsFinite (good_cons ok_impl_course good_nil))))) follows Tryz.func104 rfl (by decide) (by decide) lam_nil (m := 3) (fun _ => rfl) (by decide) (fun _ _ h => nomatch h) (fun _ _ h => nomatch h) (fun x _ => ⟨40, e_impl_ShareOfWay R x.1.1 x.1.2 x.2.1.1 x.2.1.2 x.2.2.1⟩)

set_option maxRecDepth 100000 in
theorem e_spec_ShareOfWay (M : FOps) (a0_0 : Nat) (a0_1 : Nat) (a1_0 : Nat) (a1_1 : Nat) (a2 : Nat) : cwp M Tryz.prog (envOf [(123, S_spec_l01Finite M), (154, S_spec_l02Go M), (152, S_spec_CourseTo M), (153, S_spec_ApartOf M)]) (lamOf []) 40 (Tryz.f102.body.getD .skip) 0 (retK Tryz.prog Tryz.f102.results.toList (.cons (.agg (.pair (.fl .f32) (.fl .f32))) (.cons (.one .bool) .nil)) 0) (initSt (.cons (.agg (.pair (.fl .f32) (.fl .f32))) (.cons (.agg (.pair (.fl .f32) (.fl .f32))) (.cons (.one (.fl .f32)) .nil))) ((a0_0, a0_1), ((a1_0, a1_1), (a2, ())))) = some (F_spec_ShareOfWay (p_spec_ShareOfWay M a0_0 a0_1 a1_0 a1_1 a2)) := 
  Eq.trans (b := (brT (!(c0_spec_ShareOfWay M a0_0 a0_1 a1_0 a1_1 a2).snd) (some (F_spec_ShareOfWay ((0, 0, false)))) (brT (!(c1_spec_ShareOfWay M a0_0 a0_1 a1_0 a1_1 a2).snd) (some (F_spec_ShareOfWay ((0, 0, false)))) (brT (!p_spec_l01Finite M a2) (some (F_spec_ShareOfWay ((0, 0, false)))) (brT (!p_spec_l01Finite M (c2_spec_ShareOfWay M a0_0 a0_1 a1_0 a1_1 a2)) (some (F_spec_ShareOfWay ((0, 0, false)))) (some (F_spec_ShareOfWay (((c3_spec_ShareOfWay M a0_0 a0_1 a1_0 a1_1 a2).fst, (c3_spec_ShareOfWay M a0_0 a0_1 a1_0 a1_1 a2).snd.fst, (c3_spec_ShareOfWay M a0_0 a0_1 a1_0 a1_1 a2).snd.snd))))))))) (by kernel_rfl)
    ((push2 rfl (push2 rfl (push2 rfl (push2 rfl rfl)))))
theorem ok_spec_ShareOfWay : OkFn Tryz.prog 102 (S_spec_ShareOfWay R) :=
  okFn_of (good_cons ok_spec_l01Finite (good_cons ok_spec_l02Go (good_cons ok_spec_CourseTo (good_cons ok_spec_ApartOf good_nil)))) follows Tryz.func102 rfl (by decide) (by decide) lam_nil (m := 3) (fun _ => rfl) (by decide) (fun _ _ h => nomatch h) (fun _ _ h => nomatch h) (fun x _ => ⟨40, e_spec_ShareOfWay R x.1.1 x.1.2 x.2.1.1 x.2.1.2 x.2.2.1⟩)

end Go.Proofs.YthploccngbfmpaaGreat
