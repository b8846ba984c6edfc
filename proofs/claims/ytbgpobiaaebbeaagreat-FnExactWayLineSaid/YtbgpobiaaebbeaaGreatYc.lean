/- Printed by gen2.py. -/
import Derived.Test.YtbgpobiaaebbeaaGreatYg
set_option linter.unusedVariables false
set_option linter.unusedSimpArgs false

-- GENERATED BELOW (gen.py)
namespace Go.Proofs.YtbgpobiaaebbeaaGreat
open Go Go.Cv Go.Dv
set_option maxRecDepth 100000 in
theorem e_impl_SineTurns (M : FOps) (a0 : Nat) (h : r_impl_SineTurns M a0 = true) : cwp M Tryz.prog (envOf [(96, S_impl_isFinite M), (128, S_math_NaN M), (150, un64 M.abs), (151, S_impl_sine M)]) (lamOf []) 40 (Tryz.f98.body.getD .skip) 0 (retK Tryz.prog Tryz.f98.results.toList (.cons (.one (.fl .f32)) .nil) 0) (initSt (.cons (.one (.fl .f32)) .nil) (a0, ())) = some (F_impl_SineTurns (p_impl_SineTurns M a0)) := 
  Eq.trans (b := (brT (!p_impl_isFinite M (c0_impl_SineTurns M a0)) (brT (M.narOk (c1_impl_SineTurns M a0)) (some (F_impl_SineTurns (M.nar (c1_impl_SineTurns M a0)))) none) (brT (M.cmp BinOp.geq FloatKind.f64 (M.abs (c0_impl_SineTurns M a0)) 4841369599423283200) (some (F_impl_SineTurns (0))) (brT (M.narOk (c2_impl_SineTurns M a0)) (some (F_impl_SineTurns (M.nar (c2_impl_SineTurns M a0)))) none)))) (by kernel_rfl)
    ((pushR (pushL (fun _ => rfl)) (pushR (fun _ => rfl) (pushL (fun _ => rfl)))) h)
theorem ok_impl_SineTurns : OkFn Tryz.prog 98 (S_impl_SineTurns R) :=
  okFn_of (good_cons ok_impl_isFinite (good_cons ok_math_NaN (good_cons ok_Abs (good_cons ok_impl_sine good_nil)))) follows Tryz.func98 rfl (by decide) (by decide) lam_nil (m := 1) (fun _ => rfl) (by decide) (fun _ _ h => nomatch h) (fun _ _ h => nomatch h) (fun x _ => ⟨40, e_impl_SineTurns R x.1 (rr_impl_SineTurns x.1)⟩)

set_option maxRecDepth 100000 in
theorem e_impl_cosine (M : FOps) (a0 : Nat) : cwp M Tryz.prog (envOf [(98, S_impl_SineTurns M)]) (lamOf []) 40 (Tryz.f99.body.getD .skip) 0 (retK Tryz.prog Tryz.f99.results.toList (.cons (.one (.fl .f32)) .nil) 0) (initSt (.cons (.one (.fl .f32)) .nil) (a0, ())) = some (F_impl_cosine (p_impl_cosine M a0)) := by kernel_rfl
theorem ok_impl_cosine : OkFn Tryz.prog 99 (S_impl_cosine R) :=
  okFn_of (good_cons ok_impl_SineTurns good_nil) follows Tryz.func99 rfl (by decide) (by decide) lam_nil (m := 1) (fun _ => rfl) (by decide) (fun _ _ h => nomatch h) (fun _ _ h => nomatch h) (fun x _ => ⟨40, e_impl_cosine R x.1⟩)

set_option maxRecDepth 100000 in
theorem e_spec_l01Sine (M : FOps) (a0 : Nat) (h : r_spec_l01Sine M a0 = true) : cwp M Tryz.prog (envOf [(113, S_spec_l01Narrow M), (132, S_spec_l01SineWide M)]) (lamOf []) 40 (Tryz.f83.body.getD .skip) 0 (retK Tryz.prog Tryz.f83.results.toList (.cons (.one (.fl .f32)) .nil) 0) (initSt (.cons (.one (.fl .f32)) .nil) (a0, ())) = some (F_spec_l01Sine (p_spec_l01Sine M a0)) := 
  Eq.trans (b := (brT (r_spec_l01Narrow M (c0_spec_l01Sine M a0)) (some (F_spec_l01Sine (p_spec_l01Narrow M (c0_spec_l01Sine M a0)))) none)) (by kernel_rfl)
    ((pushL (fun _ => rfl)) h)
theorem ok_spec_l01Sine : OkFn Tryz.prog 83 (S_spec_l01Sine R) :=
  okFn_of (good_cons ok_spec_l01Narrow (good_cons ok_spec_l01SineWide good_nil)) follows Tryz.func83 rfl (by decide) (by decide) lam_nil (m := 1) (fun _ => rfl) (by decide) (fun _ _ h => nomatch h) (fun _ _ h => nomatch h) (fun x _ => ⟨40, e_spec_l01Sine R x.1 (rr_spec_l01Sine x.1)⟩)

set_option maxRecDepth 100000 in
theorem e_spec_l02Cosine (M : FOps) (a0 : Nat) : cwp M Tryz.prog (envOf [(83, S_spec_l01Sine M)]) (lamOf []) 40 (Tryz.f79.body.getD .skip) 0 (retK Tryz.prog Tryz.f79.results.toList (.cons (.one (.fl .f32)) .nil) 0) (initSt (.cons (.one (.fl .f32)) .nil) (a0, ())) = some (F_spec_l02Cosine (p_spec_l02Cosine M a0)) := by kernel_rfl
theorem ok_spec_l02Cosine : OkFn Tryz.prog 79 (S_spec_l02Cosine R) :=
  okFn_of (good_cons ok_spec_l01Sine good_nil) follows Tryz.func79 rfl (by decide) (by decide) lam_nil (m := 1) (fun _ => rfl) (by decide) (fun _ _ h => nomatch h) (fun _ _ h => nomatch h) (fun x _ => ⟨40, e_spec_l02Cosine R x.1⟩)

set_option maxRecDepth 100000 in
theorem e_spec_l01Angle (M : FOps) (a0 : Nat) (a1 : Nat) (h : r_spec_l01Angle M a0 a1 = true) : cwp M Tryz.prog (envOf [(113, S_spec_l01Narrow M), (116, S_spec_l01AngleWide M)]) (lamOf []) 40 (Tryz.f133.body.getD .skip) 0 (retK Tryz.prog Tryz.f133.results.toList (.cons (.one (.fl .f32)) .nil) 0) (initSt (.cons (.one (.fl .f32)) (.cons (.one (.fl .f32)) .nil)) (a0, (a1, ()))) = some (F_spec_l01Angle (p_spec_l01Angle M a0 a1)) := 
  Eq.trans (b := (brT (r_spec_l01Narrow M (c0_spec_l01Angle M a0 a1)) (some (F_spec_l01Angle (p_spec_l01Narrow M (c0_spec_l01Angle M a0 a1)))) none)) (by kernel_rfl)
    ((pushL (fun _ => rfl)) h)
theorem ok_spec_l01Angle : OkFn Tryz.prog 133 (S_spec_l01Angle R) :=
  okFn_of (good_cons ok_spec_l01Narrow (good_cons ok_spec_l01AngleWide good_nil)) follows Tryz.func133 rfl (by decide) (by decide) lam_nil (m := 2) (fun _ => rfl) (by decide) (fun _ _ h => nomatch h) (fun _ _ h => nomatch h) (fun x _ => ⟨40, e_spec_l01Angle R x.1 x.2.1 (rr_spec_l01Angle x.1 x.2.1)⟩)

set_option maxRecDepth 100000 in
theorem e_impl_Place_way (M : FOps) (a0_0 : Nat) (a0_1 : Nat) : cwp M Tryz.prog (envOf [(98, S_impl_SineTurns M), (99, S_impl_cosine M)]) (lamOf []) 40 (Tryz.f102.body.getD .skip) 0 (retK Tryz.prog Tryz.f102.results.toList (.cons (.agg (.pair (.fl .f32) (.pair (.fl .f32) (.fl .f32)))) .nil) 0) (initSt (.cons (.agg (.pair (.fl .f32) (.fl .f32))) .nil) ((a0_0, a0_1), ())) = some (F_impl_Place_way (p_impl_Place_way M a0_0 a0_1)) := by kernel_rfl
theorem ok_impl_Place_way : OkFn Tryz.prog 102 (S_impl_Place_way R) :=
  okFn_of (good_cons ok_impl_SineTurns (good_cons ok_impl_cosine good_nil)) follows Tryz.func102 rfl (by decide) (by decide) lam_nil (m := 1) (fun _ => rfl) (by decide) (fun _ _ h => nomatch h) (fun _ _ h => nomatch h) (fun x _ => ⟨40, e_impl_Place_way R x.1.1 x.1.2⟩)

set_option maxRecDepth 100000 in
theorem e_spec_l02Way (M : FOps) (a0_0 : Nat) (a0_1 : Nat) : cwp M Tryz.prog (envOf [(79, S_spec_l02Cosine M), (83, S_spec_l01Sine M)]) (lamOf []) 40 (Tryz.f93.body.getD .skip) 0 (retK Tryz.prog Tryz.f93.results.toList (.cons (.agg (.pair (.fl .f32) (.pair (.fl .f32) (.fl .f32)))) .nil) 0) (initSt (.cons (.agg (.pair (.fl .f32) (.fl .f32))) .nil) ((a0_0, a0_1), ())) = some (F_spec_l02Way (p_spec_l02Way M a0_0 a0_1)) := by kernel_rfl
theorem ok_spec_l02Way : OkFn Tryz.prog 93 (S_spec_l02Way R) :=
  okFn_of (good_cons ok_spec_l02Cosine (good_cons ok_spec_l01Sine good_nil)) follows Tryz.func93 rfl (by decide) (by decide) lam_nil (m := 1) (fun _ => rfl) (by decide) (fun _ _ h => nomatch h) (fun _ _ h => nomatch h) (fun x _ => ⟨40, e_spec_l02Way R x.1.1 x.1.2⟩)

set_option maxRecDepth 100000 in
theorem e_impl_apart (M : FOps) (a0_0 : Nat) (a0_1 : Nat) (a1_0 : Nat) (a1_1 : Nat) : cwp M Tryz.prog (envOf [(102, S_impl_Place_way M), (105, S_impl_cross M), (107, S_impl_dotOf M), (104, S_impl_AngleTurns M), (106, S_impl_Way_long M)]) (lamOf []) 40 (Tryz.f66.body.getD .skip) 0 (retK Tryz.prog Tryz.f66.results.toList (.cons (.one (.fl .f32)) .nil) 0) (initSt (.cons (.agg (.pair (.fl .f32) (.fl .f32))) (.cons (.agg (.pair (.fl .f32) (.fl .f32))) .nil)) ((a0_0, a0_1), ((a1_0, a1_1), ()))) = some (F_impl_apart (p_impl_apart M a0_0 a0_1 a1_0 a1_1)) := by kernel_rfl
theorem ok_impl_apart : OkFn Tryz.prog 66 (S_impl_apart R) :=
  okFn_of (good_cons ok_impl_Place_way (good_cons ok_impl_cross (good_cons ok_impl_dotOf (good_cons ok_impl_AngleTurns (good_cons ok_impl_Way_long good_nil))))) follows Tryz.func66 rfl (by decide) (by decide) lam_nil (m := 2) (fun _ => rfl) (by decide) (fun _ _ h => nomatch h) (fun _ _ h => nomatch h) (fun x _ => ⟨40, e_impl_apart R x.1.1 x.1.2 x.2.1.1 x.2.1.2⟩)

set_option maxRecDepth 100000 in
theorem e_spec_l02Apart (M : FOps) (a0_0 : Nat) (a0_1 : Nat) (a1_0 : Nat) (a1_1 : Nat) : cwp M Tryz.prog (envOf [(93, S_spec_l02Way M), (135, S_spec_l02Cross M), (136, S_spec_l02Dot M), (133, S_spec_l01Angle M), (134, S_spec_l02Long M)]) (lamOf []) 40 (Tryz.f84.body.getD .skip) 0 (retK Tryz.prog Tryz.f84.results.toList (.cons (.one (.fl .f32)) .nil) 0) (initSt (.cons (.agg (.pair (.fl .f32) (.fl .f32))) (.cons (.agg (.pair (.fl .f32) (.fl .f32))) .nil)) ((a0_0, a0_1), ((a1_0, a1_1), ()))) = some (F_spec_l02Apart (p_spec_l02Apart M a0_0 a0_1 a1_0 a1_1)) := by kernel_rfl
theorem ok_spec_l02Apart : OkFn Tryz.prog 84 (S_spec_l02Apart R) :=
  okFn_of (good_cons ok_spec_l02Way (good_cons ok_spec_l02Cross (good_cons ok_spec_l02Dot (good_cons ok_spec_l01Angle (good_cons ok_spec_l02Long good_nil))))) follows Tryz.func84 rfl (by decide) (by decide) lam_nil (m := 2) (fun _ => rfl) (by decide) (fun _ _ h => nomatch h) (fun _ _ h => nomatch h) (fun x _ => ⟨40, e_spec_l02Apart R x.1.1 x.1.2 x.2.1.1 x.2.1.2⟩)

set_option maxRecDepth 100000 in
theorem e_impl_course (M : FOps) (a0_0 : Nat) (a0_1 : Nat) (a1_0 : Nat) (a1_1 : Nat) : cwp M Tryz.prog (envOf [(98, S_impl_SineTurns M), (99, S_impl_cosine M), (103, S_impl_positive M), (104, S_impl_AngleTurns M)]) (lamOf []) 40 (Tryz.f65.body.getD .skip) 0 (retK Tryz.prog Tryz.f65.results.toList (.cons (.one (.fl .f32)) .nil) 0) (initSt (.cons (.agg (.pair (.fl .f32) (.fl .f32))) (.cons (.agg (.pair (.fl .f32) (.fl .f32))) .nil)) ((a0_0, a0_1), ((a1_0, a1_1), ()))) = some (F_impl_course (p_impl_course M a0_0 a0_1 a1_0 a1_1)) := by kernel_rfl
theorem ok_impl_course : OkFn Tryz.prog 65 (S_impl_course R) :=
  okFn_of (good_cons ok_impl_SineTurns (good_cons ok_impl_cosine (good_cons ok_impl_positive (good_cons ok_impl_AngleTurns good_nil)))) follows Tryz.func65 rfl (by decide) (by decide) lam_nil (m := 2) (fun _ => rfl) (by decide) (fun _ _ h => nomatch h) (fun _ _ h => nomatch h) (fun x _ => ⟨40, e_impl_course R x.1.1 x.1.2 x.2.1.1 x.2.1.2⟩)

set_option maxRecDepth 100000 in
theorem e_spec_l02Course (M : FOps) (a0_0 : Nat) (a0_1 : Nat) (a1_0 : Nat) (a1_1 : Nat) : cwp M Tryz.prog (envOf [(137, S_spec_l02Above0 M), (133, S_spec_l01Angle M), (79, S_spec_l02Cosine M), (83, S_spec_l01Sine M)]) (lamOf []) 40 (Tryz.f85.body.getD .skip) 0 (retK Tryz.prog Tryz.f85.results.toList (.cons (.one (.fl .f32)) .nil) 0) (initSt (.cons (.agg (.pair (.fl .f32) (.fl .f32))) (.cons (.agg (.pair (.fl .f32) (.fl .f32))) .nil)) ((a0_0, a0_1), ((a1_0, a1_1), ()))) = some (F_spec_l02Course (p_spec_l02Course M a0_0 a0_1 a1_0 a1_1)) := by kernel_rfl
theorem ok_spec_l02Course : OkFn Tryz.prog 85 (S_spec_l02Course R) :=
  okFn_of (good_cons ok_spec_l02Above0 (good_cons ok_spec_l01Angle (good_cons ok_spec_l02Cosine (good_cons ok_spec_l01Sine good_nil)))) follows Tryz.func85 rfl (by decide) (by decide) lam_nil (m := 2) (fun _ => rfl) (by decide) (fun _ _ h => nomatch h) (fun _ _ h => nomatch h) (fun x _ => ⟨40, e_spec_l02Course R x.1.1 x.1.2 x.2.1.1 x.2.1.2⟩)

set_option maxRecDepth 100000 in
theorem e_spec_CourseTo (M : FOps) (a0_0 : Nat) (a0_1 : Nat) (a1_0 : Nat) (a1_1 : Nat) : cwp M Tryz.prog (envOf [(76, S_spec_l02Number M), (89, S_spec_l02Two M), (85, S_spec_l02Course M)]) (lamOf []) 40 (Tryz.f58.body.getD .skip) 0 (retK Tryz.prog Tryz.f58.results.toList (.cons (.one (.fl .f32)) (.cons (.one .bool) .nil)) 0) (initSt (.cons (.agg (.pair (.fl .f32) (.fl .f32))) (.cons (.agg (.pair (.fl .f32) (.fl .f32))) .nil)) ((a0_0, a0_1), ((a1_0, a1_1), ()))) = some (F_spec_CourseTo (p_spec_CourseTo M a0_0 a0_1 a1_0 a1_1)) := 
  Eq.trans (b := (brT (!p_spec_l02Two M a0_0 a0_1 a1_0 a1_1) (some (F_spec_CourseTo ((0, false)))) (some (F_spec_CourseTo (((c0_spec_CourseTo M a0_0 a0_1 a1_0 a1_1).fst, (c0_spec_CourseTo M a0_0 a0_1 a1_0 a1_1).snd)))))) (by kernel_rfl)
    ((push2 rfl rfl))
theorem ok_spec_CourseTo : OkFn Tryz.prog 58 (S_spec_CourseTo R) :=
  okFn_of (good_cons ok_spec_l02Number (good_cons ok_spec_l02Two (good_cons ok_spec_l02Course good_nil))) follows Tryz.func58 rfl (by decide) (by decide) lam_nil (m := 2) (fun _ => rfl) (by decide) (fun _ _ h => nomatch h) (fun _ _ h => nomatch h) (fun x _ => ⟨40, e_spec_CourseTo R x.1.1 x.1.2 x.2.1.1 x.2.1.2⟩)

set_option maxRecDepth 100000 in
theorem e_spec_ApartOf (M : FOps) (a0_0 : Nat) (a0_1 : Nat) (a1_0 : Nat) (a1_1 : Nat) : cwp M Tryz.prog (envOf [(76, S_spec_l02Number M), (89, S_spec_l02Two M), (84, S_spec_l02Apart M)]) (lamOf []) 40 (Tryz.f59.body.getD .skip) 0 (retK Tryz.prog Tryz.f59.results.toList (.cons (.one (.fl .f32)) (.cons (.one .bool) .nil)) 0) (initSt (.cons (.agg (.pair (.fl .f32) (.fl .f32))) (.cons (.agg (.pair (.fl .f32) (.fl .f32))) .nil)) ((a0_0, a0_1), ((a1_0, a1_1), ()))) = some (F_spec_ApartOf (p_spec_ApartOf M a0_0 a0_1 a1_0 a1_1)) := 
  Eq.trans (b := (brT (!p_spec_l02Two M a0_0 a0_1 a1_0 a1_1) (some (F_spec_ApartOf ((0, false)))) (some (F_spec_ApartOf (((c0_spec_ApartOf M a0_0 a0_1 a1_0 a1_1).fst, (c0_spec_ApartOf M a0_0 a0_1 a1_0 a1_1).snd)))))) (by kernel_rfl)
    ((push2 rfl rfl))
theorem ok_spec_ApartOf : OkFn Tryz.prog 59 (S_spec_ApartOf R) :=
  okFn_of (good_cons ok_spec_l02Number (good_cons ok_spec_l02Two (good_cons ok_spec_l02Apart good_nil))) follows Tryz.func59 rfl (by decide) (by decide) lam_nil (m := 2) (fun _ => rfl) (by decide) (fun _ _ h => nomatch h) (fun _ _ h => nomatch h) (fun x _ => ⟨40, e_spec_ApartOf R x.1.1 x.1.2 x.2.1.1 x.2.1.2⟩)

set_option maxRecDepth 100000 in
theorem e_impl_isWay (M : FOps) (a0_0 : Nat) (a0_1 : Nat) (a0_2 : Nat) : cwp M Tryz.prog (envOf [(97, S_impl_areFinite M)]) (lamOf []) 40 (Tryz.f168.body.getD .skip) 0 (retK Tryz.prog Tryz.f168.results.toList (.cons (.one .bool) .nil) 0) (initSt (.cons (.agg (.pair (.fl .f32) (.pair (.fl .f32) (.fl .f32)))) .nil) ((a0_0, (a0_1, a0_2)), ())) = some (F_impl_isWay (p_impl_isWay M a0_0 a0_1 a0_2)) := by kernel_rfl
theorem ok_impl_isWay : OkFn Tryz.prog 168 (S_impl_isWay R) :=
  okFn_of (good_cons ok_impl_areFinite good_nil) follows Tryz.func168 rfl (by decide) (by decide) lam_nil (m := 1) (fun _ => rfl) (by decide) (fun _ _ h => nomatch h) (fun _ _ h => nomatch h) (fun x _ => ⟨40, e_impl_isWay R x.1.1 x.1.2.1 x.1.2.2⟩)

set_option maxRecDepth 100000 in
theorem e_impl_LongOfWay (M : FOps) (a0_0 : Nat) (a0_1 : Nat) (a0_2 : Nat) : cwp M Tryz.prog (envOf [(52, S_impl_finite M), (107, S_impl_dotOf M), (63, S_impl_IsFinite M), (106, S_impl_Way_long M), (168, S_impl_isWay M)]) (lamOf []) 40 (Tryz.f152.body.getD .skip) 0 (retK Tryz.prog Tryz.f152.results.toList (.cons (.one (.fl .f32)) (.cons (.one .bool) .nil)) 0) (initSt (.cons (.agg (.pair (.fl .f32) (.pair (.fl .f32) (.fl .f32)))) .nil) ((a0_0, (a0_1, a0_2)), ())) = some (F_impl_LongOfWay (p_impl_LongOfWay M a0_0 a0_1 a0_2)) := 
  Eq.trans (b := (brT (p_impl_isWay M a0_0 a0_1 a0_2) (some (F_impl_LongOfWay (((c0_impl_LongOfWay M a0_0 a0_1 a0_2).fst, (c0_impl_LongOfWay M a0_0 a0_1 a0_2).snd)))) (some (F_impl_LongOfWay (((c1_impl_LongOfWay M a0_0 a0_1 a0_2).fst, (c1_impl_LongOfWay M a0_0 a0_1 a0_2).snd)))))) (by kernel_rfl)
    ((push2 rfl rfl))
theorem ok_impl_LongOfWay : OkFn Tryz.prog 152 (S_impl_LongOfWay R) :=
  okFn_of (good_cons ok_impl_finite (good_cons ok_impl_dotOf (good_cons ok_impl_IsFinite (good_cons ok_impl_Way_long (good_cons ok_impl_isWay good_nil))))) follows Tryz.func152 rfl (by decide) (by decide) lam_nil (m := 1) (fun _ => rfl) (by decide) (fun _ _ h => nomatch h) (fun _ _ h => nomatch h) (fun x _ => ⟨40, e_impl_LongOfWay R x.1.1 x.1.2.1 x.1.2.2⟩)

set_option maxRecDepth 100000 in
theorem e_impl_PlaceOfWay (M : FOps) (a0_0 : Nat) (a0_1 : Nat) (a0_2 : Nat) : cwp M Tryz.prog (envOf [(104, S_impl_AngleTurns M), (53, S_impl_wrap M), (152, S_impl_LongOfWay M), (153, S_impl_RootNumber M), (33, S_impl_valid M)]) (lamOf []) 40 (Tryz.f101.body.getD .skip) 0 (retK Tryz.prog Tryz.f101.results.toList (.cons (.agg (.pair (.fl .f32) (.fl .f32))) (.cons (.one .bool) .nil)) 0) (initSt (.cons (.agg (.pair (.fl .f32) (.pair (.fl .f32) (.fl .f32)))) .nil) ((a0_0, (a0_1, a0_2)), ())) = some (F_impl_PlaceOfWay (p_impl_PlaceOfWay M a0_0 a0_1 a0_2)) := 
  Eq.trans (b := (brT (!(c0_impl_PlaceOfWay M a0_0 a0_1 a0_2).snd) (some (F_impl_PlaceOfWay ((0, 0, false)))) (brT (!M.cmp BinOp.gtr FloatKind.f32 (c0_impl_PlaceOfWay M a0_0 a0_1 a0_2).fst 0) (some (F_impl_PlaceOfWay ((0, 0, false)))) (some (F_impl_PlaceOfWay (((c1_impl_PlaceOfWay M a0_0 a0_1 a0_2).fst, (c1_impl_PlaceOfWay M a0_0 a0_1 a0_2).snd.fst, (c1_impl_PlaceOfWay M a0_0 a0_1 a0_2).snd.snd))))))) (by kernel_rfl)
    ((push2 rfl (push2 rfl rfl)))
theorem ok_impl_PlaceOfWay : OkFn Tryz.prog 101 (S_impl_PlaceOfWay R) :=
  okFn_of (good_cons ok_impl_AngleTurns (good_cons ok_impl_wrap (good_cons ok_impl_LongOfWay (good_cons ok_impl_RootNumber (good_cons ok_impl_valid good_nil))))) follows Tryz.func101 rfl (by decide) (by decide) lam_nil (m := 1) (fun _ => rfl) (by decide) (fun _ _ h => nomatch h) (fun _ _ h => nomatch h) (fun x _ => ⟨40, e_impl_PlaceOfWay R x.1.1 x.1.2.1 x.1.2.2⟩)

set_option maxRecDepth 100000 in
theorem e_spec_l02From (M : FOps) (a0_0 : Nat) (a0_1 : Nat) (a0_2 : Nat) : cwp M Tryz.prog (envOf [(133, S_spec_l01Angle M), (49, S_spec_l02Wrap M), (134, S_spec_l02Long M), (145, S_spec_l02Ways M), (146, S_spec_l02Above M), (147, S_spec_l01Sqrt M), (148, S_spec_l02Give M)]) (lamOf []) 40 (Tryz.f92.body.getD .skip) 0 (retK Tryz.prog Tryz.f92.results.toList (.cons (.agg (.pair (.fl .f32) (.fl .f32))) (.cons (.one .bool) .nil)) 0) (initSt (.cons (.agg (.pair (.fl .f32) (.pair (.fl .f32) (.fl .f32)))) .nil) ((a0_0, (a0_1, a0_2)), ())) = some (F_spec_l02From (p_spec_l02From M a0_0 a0_1 a0_2)) := 
  Eq.trans (b := (brT (!p_spec_l02Ways M a0_0 a0_1 a0_2) (some (F_spec_l02From ((0, 0, false)))) (brT (!p_spec_l02Above M (p_spec_l02Long M a0_0 a0_1 a0_2)) (some (F_spec_l02From ((0, 0, false)))) (some (F_spec_l02From (((c0_spec_l02From M a0_0 a0_1 a0_2).fst, (c0_spec_l02From M a0_0 a0_1 a0_2).snd.fst, (c0_spec_l02From M a0_0 a0_1 a0_2).snd.snd))))))) (by kernel_rfl)
    ((push2 rfl (push2 rfl rfl)))
theorem ok_spec_l02From : OkFn Tryz.prog 92 (S_spec_l02From R) :=
  okFn_of (good_cons ok_spec_l01Angle (good_cons ok_spec_l02Wrap (good_cons ok_spec_l02Long (good_cons ok_spec_l02Ways (good_cons ok_spec_l02Above (good_cons ok_spec_l01Sqrt (good_cons ok_spec_l02Give good_nil))))))) follows Tryz.func92 rfl (by decide) (by decide) lam_nil (m := 1) (fun _ => rfl) (by decide) (fun _ _ h => nomatch h) (fun _ _ h => nomatch h) (fun x _ => ⟨40, e_spec_l02From R x.1.1 x.1.2.1 x.1.2.2⟩)

set_option maxRecDepth 100000 in
theorem e_impl_GoFrom (M : FOps) (a0_0 : Nat) (a0_1 : Nat) (a1 : Nat) (a2 : Nat) : cwp M Tryz.prog (envOf [(101, S_impl_PlaceOfWay M), (102, S_impl_Place_way M), (57, S_impl_ValidPlace M), (97, S_impl_areFinite M), (98, S_impl_SineTurns M), (99, S_impl_cosine M), (100, S_impl_sumOf M)]) (lamOf []) 40 (Tryz.f64.body.getD .skip) 0 (retK Tryz.prog Tryz.f64.results.toList (.cons (.agg (.pair (.fl .f32) (.fl .f32))) (.cons (.one .bool) .nil)) 0) (initSt (.cons (.agg (.pair (.fl .f32) (.fl .f32))) (.cons (.one (.fl .f32)) (.cons (.one (.fl .f32)) .nil))) ((a0_0, a0_1), (a1, (a2, ())))) = some (F_impl_GoFrom (p_impl_GoFrom M a0_0 a0_1 a1 a2)) := 
  Eq.trans (b := (brT (!p_impl_ValidPlace M a0_0 a0_1) (some (F_impl_GoFrom ((0, 0, false)))) (brT (!(p_impl_IsFinite M a1 && (p_impl_IsFinite M a2 && true))) (some (F_impl_GoFrom ((0, 0, false)))) (some (F_impl_GoFrom (((c5_impl_GoFrom M a0_0 a0_1 a1 a2).fst, (c5_impl_GoFrom M a0_0 a0_1 a1 a2).snd.fst, (c5_impl_GoFrom M a0_0 a0_1 a1 a2).snd.snd))))))) (by kernel_rfl)
    ((push2 rfl (push2 rfl rfl)))
theorem ok_impl_GoFrom : OkFn Tryz.prog 64 (S_impl_GoFrom R) :=
  okFn_of (good_cons ok_impl_PlaceOfWay (good_cons ok_impl_Place_way (good_cons ok_impl_ValidPlace (good_cons ok_impl_areFinite (good_cons ok_impl_SineTurns (good_cons ok_impl_cosine (good_cons ok_impl_sumOf good_nil))))))) follows Tryz.func64 rfl (by decide) (by decide) lam_nil (m := 3) (fun _ => rfl) (by decide) (fun _ _ h => nomatch h) (fun _ _ h => nomatch h) (fun x _ => ⟨40, e_impl_GoFrom R x.1.1 x.1.2 x.2.1 x.2.2.1⟩)

set_option maxRecDepth 100000 in
theorem e_spec_l02Go (M : FOps) (a0_0 : Nat) (a0_1 : Nat) (a1 : Nat) (a2 : Nat) : cwp M Tryz.prog (envOf [(92, S_spec_l02From M), (90, S_spec_l02Add M), (93, S_spec_l02Way M), (79, S_spec_l02Cosine M), (83, S_spec_l01Sine M), (91, S_spec_l02Times M)]) (lamOf []) 40 (Tryz.f61.body.getD .skip) 0 (retK Tryz.prog Tryz.f61.results.toList (.cons (.agg (.pair (.fl .f32) (.fl .f32))) (.cons (.one .bool) .nil)) 0) (initSt (.cons (.agg (.pair (.fl .f32) (.fl .f32))) (.cons (.one (.fl .f32)) (.cons (.one (.fl .f32)) .nil))) ((a0_0, a0_1), (a1, (a2, ())))) = some (F_spec_l02Go (p_spec_l02Go M a0_0 a0_1 a1 a2)) := by kernel_rfl
theorem ok_spec_l02Go : OkFn Tryz.prog 61 (S_spec_l02Go R) :=
  okFn_of (good_cons ok_spec_l02From (good_cons ok_spec_l02Add (good_cons ok_spec_l02Way (good_cons ok_spec_l02Cosine (good_cons ok_spec_l01Sine (good_cons ok_spec_l02Times good_nil)))))) follows Tryz.func61 rfl (by decide) (by decide) lam_nil (m := 3) (fun _ => rfl) (by decide) (fun _ _ h => nomatch h) (fun _ _ h => nomatch h) (fun x _ => ⟨40, e_spec_l02Go R x.1.1 x.1.2 x.2.1 x.2.2.1⟩)

set_option maxRecDepth 100000 in
theorem e_impl_ShareOfWay (M : FOps) (a0_0 : Nat) (a0_1 : Nat) (a1_0 : Nat) (a1_1 : Nat) (a2 : Nat) : cwp M Tryz.prog (envOf [(64, S_impl_GoFrom M), (62, S_impl_areValid M), (66, S_impl_apart M), (63, S_impl_IsFinite M), (65, S_impl_course M)]) (lamOf []) 40 (Tryz.f38.body.getD .skip) 0 (retK Tryz.prog Tryz.f38.results.toList (.cons (.agg (.pair (.fl .f32) (.fl .f32))) (.cons (.one .bool) .nil)) 0) (initSt (.cons (.agg (.pair (.fl .f32) (.fl .f32))) (.cons (.agg (.pair (.fl .f32) (.fl .f32))) (.cons (.one (.fl .f32)) .nil))) ((a0_0, a0_1), ((a1_0, a1_1), (a2, ())))) = some (F_impl_ShareOfWay (p_impl_ShareOfWay M a0_0 a0_1 a1_0 a1_1 a2)) := 
  Eq.trans (b := (brT (!(p_impl_ValidPlace M a0_0 a0_1 && (p_impl_ValidPlace M a1_0 a1_1 && true))) (some (F_impl_ShareOfWay ((0, 0, false)))) (brT (!p_impl_IsFinite M a2) (some (F_impl_ShareOfWay ((0, 0, false)))) (some (F_impl_ShareOfWay (((c0_impl_ShareOfWay M a0_0 a0_1 a1_0 a1_1 a2).fst, (c0_impl_ShareOfWay M a0_0 a0_1 a1_0 a1_1 a2).snd.fst, (c0_impl_ShareOfWay M a0_0 a0_1 a1_0 a1_1 a2).snd.snd))))))) (by kernel_rfl)
    ((push2 rfl (push2 rfl rfl)))
theorem ok_impl_ShareOfWay : OkFn Tryz.prog 38 (S_impl_ShareOfWay R) :=
  okFn_of (good_cons ok_impl_GoFrom (good_cons ok_impl_areValid (good_cons ok_impl_apart (good_cons ok_impl_IsFinite (good_cons ok_impl_course good_nil))))) follows Tryz.func38 rfl (by decide) (by decide) lam_nil (m := 3) (fun _ => rfl) (by decide) (fun _ _ h => nomatch h) (fun _ _ h => nomatch h) (fun x _ => ⟨40, e_impl_ShareOfWay R x.1.1 x.1.2 x.2.1.1 x.2.1.2 x.2.2.1⟩)

set_option maxRecDepth 100000 in
theorem e_spec_ShareOfWay (M : FOps) (a0_0 : Nat) (a0_1 : Nat) (a1_0 : Nat) (a1_1 : Nat) (a2 : Nat) : cwp M Tryz.prog (envOf [(60, S_spec_l01Finite M), (61, S_spec_l02Go M), (58, S_spec_CourseTo M), (59, S_spec_ApartOf M)]) (lamOf []) 40 (Tryz.f36.body.getD .skip) 0 (retK Tryz.prog Tryz.f36.results.toList (.cons (.agg (.pair (.fl .f32) (.fl .f32))) (.cons (.one .bool) .nil)) 0) (initSt (.cons (.agg (.pair (.fl .f32) (.fl .f32))) (.cons (.agg (.pair (.fl .f32) (.fl .f32))) (.cons (.one (.fl .f32)) .nil))) ((a0_0, a0_1), ((a1_0, a1_1), (a2, ())))) = some (F_spec_ShareOfWay (p_spec_ShareOfWay M a0_0 a0_1 a1_0 a1_1 a2)) := 
  Eq.trans (b := (brT (!(c0_spec_ShareOfWay M a0_0 a0_1 a1_0 a1_1 a2).snd) (some (F_spec_ShareOfWay ((0, 0, false)))) (brT (!(c1_spec_ShareOfWay M a0_0 a0_1 a1_0 a1_1 a2).snd) (some (F_spec_ShareOfWay ((0, 0, false)))) (brT (!p_spec_l01Finite M a2) (some (F_spec_ShareOfWay ((0, 0, false)))) (brT (!p_spec_l01Finite M (c2_spec_ShareOfWay M a0_0 a0_1 a1_0 a1_1 a2)) (some (F_spec_ShareOfWay ((0, 0, false)))) (some (F_spec_ShareOfWay (((c3_spec_ShareOfWay M a0_0 a0_1 a1_0 a1_1 a2).fst, (c3_spec_ShareOfWay M a0_0 a0_1 a1_0 a1_1 a2).snd.fst, (c3_spec_ShareOfWay M a0_0 a0_1 a1_0 a1_1 a2).snd.snd))))))))) (by kernel_rfl)
    ((push2 rfl (push2 rfl (push2 rfl (push2 rfl rfl)))))
theorem ok_spec_ShareOfWay : OkFn Tryz.prog 36 (S_spec_ShareOfWay R) :=
  okFn_of (good_cons ok_spec_l01Finite (good_cons ok_spec_l02Go (good_cons ok_spec_CourseTo (good_cons ok_spec_ApartOf good_nil)))) follows Tryz.func36 rfl (by decide) (by decide) lam_nil (m := 3) (fun _ => rfl) (by decide) (fun _ _ h => nomatch h) (fun _ _ h => nomatch h) (fun x _ => ⟨40, e_spec_ShareOfWay R x.1.1 x.1.2 x.2.1.1 x.2.1.2 x.2.2.1⟩)

end Go.Proofs.YtbgpobiaaebbeaaGreat
