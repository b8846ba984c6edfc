/- The contracts of the functions of part 2 over this translation. -/
import Derived.Test.YtmhmedbhngmmpaaNc
import Derived.Test.YtmhmedbhngmmpaaXd

-- GENERATED BELOW (gen.py)
namespace Go.Proofs.Ytmhmedbhngmmpaa
open Go Go.Cv
set_option maxRecDepth 100000 in
theorem e_impl_SineTurns (M : FOps) (a0 : Nat) (h : r_impl_SineTurns M a0 = true) : cwp M Try.prog (envOf [(95, S_impl_isFinite M), (96, S_math_NaN M), (97, un64 M.abs), (98, S_impl_sine M)]) 40 (Try.f57.body.getD .skip) (retK Try.prog Try.f57.results.toList) (initSt [.s (.fl .f32 a0)]) = some (F_impl_SineTurns (p_impl_SineTurns M a0)) := 
  Eq.trans (b := (brT (!p_impl_isFinite M (c0_impl_SineTurns M a0)) (brT (M.narOk (c1_impl_SineTurns M a0)) (some (F_impl_SineTurns (M.nar (c1_impl_SineTurns M a0)))) none) (brT (M.cmp BinOp.geq FloatKind.f64 (M.abs (c0_impl_SineTurns M a0)) 4841369599423283200) (some (F_impl_SineTurns (0))) (brT (M.narOk (c2_impl_SineTurns M a0)) (some (F_impl_SineTurns (M.nar (c2_impl_SineTurns M a0)))) none)))) (by kernel_rfl)
    ((pushR (pushL (fun _ => rfl)) (pushR (fun _ => rfl) (pushL (fun _ => rfl)))) h)

theorem ok_impl_SineTurns : OkFn Try.prog 57 (S_impl_SineTurns R) := by
  refine okFn_of_cwp (good_cons ok_impl_isFinite (good_cons ok_math_NaN (good_cons ok_Abs (good_cons ok_impl_sine good_nil)))) follows Try.func57 rfl (by decide) (by decide) ?_
  intro hp args cv deps h
  unfold S_impl_SineTurns at h
  split at h
  · cases h
    exact ⟨rfl, (fun d hd => nomatch hd), Nat.le_of_ble_eq_true rfl, _, 40, view_plain rfl, e_impl_SineTurns R _ (rr_impl_SineTurns _)⟩
  · cases h

set_option maxRecDepth 100000 in
theorem e_impl_cosine (M : FOps) (a0 : Nat) : cwp M Try.prog (envOf [(57, S_impl_SineTurns M)]) 40 (Try.f58.body.getD .skip) (retK Try.prog Try.f58.results.toList) (initSt [.s (.fl .f32 a0)]) = some (F_impl_cosine (p_impl_cosine M a0)) := by kernel_rfl

theorem ok_impl_cosine : OkFn Try.prog 58 (S_impl_cosine R) := by
  refine okFn_of_cwp (good_cons ok_impl_SineTurns good_nil) follows Try.func58 rfl (by decide) (by decide) ?_
  intro hp args cv deps h
  unfold S_impl_cosine at h
  split at h
  · cases h
    exact ⟨rfl, (fun d hd => nomatch hd), Nat.le_of_ble_eq_true rfl, _, 40, view_plain rfl, e_impl_cosine R _⟩
  · cases h

set_option maxRecDepth 100000 in
theorem e_spec_l01Sine (M : FOps) (a0 : Nat) (h : r_spec_l01Sine M a0 = true) : cwp M Try.prog (envOf [(100, S_spec_l01Narrow M), (108, S_spec_l01SineWide M)]) 40 (Try.f86.body.getD .skip) (retK Try.prog Try.f86.results.toList) (initSt [.s (.fl .f32 a0)]) = some (F_spec_l01Sine (p_spec_l01Sine M a0)) := 
  Eq.trans (b := (brT (r_spec_l01Narrow M (c0_spec_l01Sine M a0)) (some (F_spec_l01Sine (p_spec_l01Narrow M (c0_spec_l01Sine M a0)))) none)) (by kernel_rfl)
    ((pushL (fun _ => rfl)) h)

theorem ok_spec_l01Sine : OkFn Try.prog 86 (S_spec_l01Sine R) := by
  refine okFn_of_cwp (good_cons ok_spec_l01Narrow (good_cons ok_spec_l01SineWide good_nil)) follows Try.func86 rfl (by decide) (by decide) ?_
  intro hp args cv deps h
  unfold S_spec_l01Sine at h
  split at h
  · cases h
    exact ⟨rfl, (fun d hd => nomatch hd), Nat.le_of_ble_eq_true rfl, _, 40, view_plain rfl, e_spec_l01Sine R _ (rr_spec_l01Sine _)⟩
  · cases h

set_option maxRecDepth 100000 in
theorem e_spec_l02Cosine (M : FOps) (a0 : Nat) : cwp M Try.prog (envOf [(86, S_spec_l01Sine M)]) 40 (Try.f72.body.getD .skip) (retK Try.prog Try.f72.results.toList) (initSt [.s (.fl .f32 a0)]) = some (F_spec_l02Cosine (p_spec_l02Cosine M a0)) := by kernel_rfl

theorem ok_spec_l02Cosine : OkFn Try.prog 72 (S_spec_l02Cosine R) := by
  refine okFn_of_cwp (good_cons ok_spec_l01Sine good_nil) follows Try.func72 rfl (by decide) (by decide) ?_
  intro hp args cv deps h
  unfold S_spec_l02Cosine at h
  split at h
  · cases h
    exact ⟨rfl, (fun d hd => nomatch hd), Nat.le_of_ble_eq_true rfl, _, 40, view_plain rfl, e_spec_l02Cosine R _⟩
  · cases h

set_option maxRecDepth 100000 in
theorem e_spec_l01Angle (M : FOps) (a0 : Nat) (a1 : Nat) (h : r_spec_l01Angle M a0 a1 = true) : cwp M Try.prog (envOf [(100, S_spec_l01Narrow M), (101, S_spec_l01AngleWide M)]) 40 (Try.f66.body.getD .skip) (retK Try.prog Try.f66.results.toList) (initSt [.s (.fl .f32 a0), .s (.fl .f32 a1)]) = some (F_spec_l01Angle (p_spec_l01Angle M a0 a1)) := 
  Eq.trans (b := (brT (r_spec_l01Narrow M (c0_spec_l01Angle M a0 a1)) (some (F_spec_l01Angle (p_spec_l01Narrow M (c0_spec_l01Angle M a0 a1)))) none)) (by kernel_rfl)
    ((pushL (fun _ => rfl)) h)

theorem ok_spec_l01Angle : OkFn Try.prog 66 (S_spec_l01Angle R) := by
  refine okFn_of_cwp (good_cons ok_spec_l01Narrow (good_cons ok_spec_l01AngleWide good_nil)) follows Try.func66 rfl (by decide) (by decide) ?_
  intro hp args cv deps h
  unfold S_spec_l01Angle at h
  split at h
  · cases h
    exact ⟨rfl, (fun d hd => nomatch hd), Nat.le_of_ble_eq_true rfl, _, 40, view_plain rfl, e_spec_l01Angle R _ _ (rr_spec_l01Angle _ _)⟩
  · cases h

set_option maxRecDepth 100000 in
theorem e_impl_Place_way (M : FOps) (a0_0 : Nat) (a0_1 : Nat) : cwp M Try.prog (envOf [(57, S_impl_SineTurns M), (58, S_impl_cosine M)]) 40 (Try.f49.body.getD .skip) (retK Try.prog Try.f49.results.toList) (initSt [.agg [.fl .f32 a0_0, .fl .f32 a0_1]]) = some (F_impl_Place_way (p_impl_Place_way M a0_0 a0_1)) := by kernel_rfl

theorem ok_impl_Place_way : OkFn Try.prog 49 (S_impl_Place_way R) := by
  refine okFn_of_cwp (good_cons ok_impl_SineTurns (good_cons ok_impl_cosine good_nil)) follows Try.func49 rfl (by decide) (by decide) ?_
  intro hp args cv deps h
  unfold S_impl_Place_way at h
  split at h
  · cases h
    exact ⟨rfl, (fun d hd => nomatch hd), Nat.le_of_ble_eq_true rfl, _, 40, view_plain rfl, e_impl_Place_way R _ _⟩
  · cases h

set_option maxRecDepth 100000 in
theorem e_spec_l02Way (M : FOps) (a0_0 : Nat) (a0_1 : Nat) : cwp M Try.prog (envOf [(72, S_spec_l02Cosine M), (86, S_spec_l01Sine M)]) 40 (Try.f45.body.getD .skip) (retK Try.prog Try.f45.results.toList) (initSt [.agg [.fl .f32 a0_0, .fl .f32 a0_1]]) = some (F_spec_l02Way (p_spec_l02Way M a0_0 a0_1)) := by kernel_rfl

theorem ok_spec_l02Way : OkFn Try.prog 45 (S_spec_l02Way R) := by
  refine okFn_of_cwp (good_cons ok_spec_l02Cosine (good_cons ok_spec_l01Sine good_nil)) follows Try.func45 rfl (by decide) (by decide) ?_
  intro hp args cv deps h
  unfold S_spec_l02Way at h
  split at h
  · cases h
    exact ⟨rfl, (fun d hd => nomatch hd), Nat.le_of_ble_eq_true rfl, _, 40, view_plain rfl, e_spec_l02Way R _ _⟩
  · cases h

set_option maxRecDepth 100000 in
theorem e_impl_apart (M : FOps) (a0_0 : Nat) (a0_1 : Nat) (a1_0 : Nat) (a1_1 : Nat) : cwp M Try.prog (envOf [(49, S_impl_Place_way M), (62, S_impl_cross M), (63, S_impl_dotOf M), (70, S_impl_AngleTurns M), (92, S_impl_Way_long M)]) 40 (Try.f51.body.getD .skip) (retK Try.prog Try.f51.results.toList) (initSt [.agg [.fl .f32 a0_0, .fl .f32 a0_1], .agg [.fl .f32 a1_0, .fl .f32 a1_1]]) = some (F_impl_apart (p_impl_apart M a0_0 a0_1 a1_0 a1_1)) := by kernel_rfl

theorem ok_impl_apart : OkFn Try.prog 51 (S_impl_apart R) := by
  refine okFn_of_cwp (good_cons ok_impl_Place_way (good_cons ok_impl_cross (good_cons ok_impl_dotOf (good_cons ok_impl_AngleTurns (good_cons ok_impl_Way_long good_nil))))) follows Try.func51 rfl (by decide) (by decide) ?_
  intro hp args cv deps h
  unfold S_impl_apart at h
  split at h
  · cases h
    exact ⟨rfl, (fun d hd => nomatch hd), Nat.le_of_ble_eq_true rfl, _, 40, view_plain rfl, e_impl_apart R _ _ _ _⟩
  · cases h

set_option maxRecDepth 100000 in
theorem e_spec_l02Apart (M : FOps) (a0_0 : Nat) (a0_1 : Nat) (a1_0 : Nat) (a1_1 : Nat) : cwp M Try.prog (envOf [(45, S_spec_l02Way M), (60, S_spec_l02Cross M), (61, S_spec_l02Dot M), (66, S_spec_l01Angle M), (81, S_spec_l02Long M)]) 40 (Try.f50.body.getD .skip) (retK Try.prog Try.f50.results.toList) (initSt [.agg [.fl .f32 a0_0, .fl .f32 a0_1], .agg [.fl .f32 a1_0, .fl .f32 a1_1]]) = some (F_spec_l02Apart (p_spec_l02Apart M a0_0 a0_1 a1_0 a1_1)) := by kernel_rfl

theorem ok_spec_l02Apart : OkFn Try.prog 50 (S_spec_l02Apart R) := by
  refine okFn_of_cwp (good_cons ok_spec_l02Way (good_cons ok_spec_l02Cross (good_cons ok_spec_l02Dot (good_cons ok_spec_l01Angle (good_cons ok_spec_l02Long good_nil))))) follows Try.func50 rfl (by decide) (by decide) ?_
  intro hp args cv deps h
  unfold S_spec_l02Apart at h
  split at h
  · cases h
    exact ⟨rfl, (fun d hd => nomatch hd), Nat.le_of_ble_eq_true rfl, _, 40, view_plain rfl, e_spec_l02Apart R _ _ _ _⟩
  · cases h

set_option maxRecDepth 100000 in
theorem e_impl_course (M : FOps) (a0_0 : Nat) (a0_1 : Nat) (a1_0 : Nat) (a1_1 : Nat) : cwp M Try.prog (envOf [(57, S_impl_SineTurns M), (58, S_impl_cosine M), (69, S_impl_positive M), (70, S_impl_AngleTurns M)]) 40 (Try.f78.body.getD .skip) (retK Try.prog Try.f78.results.toList) (initSt [.agg [.fl .f32 a0_0, .fl .f32 a0_1], .agg [.fl .f32 a1_0, .fl .f32 a1_1]]) = some (F_impl_course (p_impl_course M a0_0 a0_1 a1_0 a1_1)) := by kernel_rfl

theorem ok_impl_course : OkFn Try.prog 78 (S_impl_course R) := by
  refine okFn_of_cwp (good_cons ok_impl_SineTurns (good_cons ok_impl_cosine (good_cons ok_impl_positive (good_cons ok_impl_AngleTurns good_nil)))) follows Try.func78 rfl (by decide) (by decide) ?_
  intro hp args cv deps h
  unfold S_impl_course at h
  split at h
  · cases h
    exact ⟨rfl, (fun d hd => nomatch hd), Nat.le_of_ble_eq_true rfl, _, 40, view_plain rfl, e_impl_course R _ _ _ _⟩
  · cases h

set_option maxRecDepth 100000 in
theorem e_spec_l02Course (M : FOps) (a0_0 : Nat) (a0_1 : Nat) (a1_0 : Nat) (a1_1 : Nat) : cwp M Try.prog (envOf [(65, S_spec_l02Above0 M), (66, S_spec_l01Angle M), (72, S_spec_l02Cosine M), (86, S_spec_l01Sine M)]) 40 (Try.f107.body.getD .skip) (retK Try.prog Try.f107.results.toList) (initSt [.agg [.fl .f32 a0_0, .fl .f32 a0_1], .agg [.fl .f32 a1_0, .fl .f32 a1_1]]) = some (F_spec_l02Course (p_spec_l02Course M a0_0 a0_1 a1_0 a1_1)) := by kernel_rfl

theorem ok_spec_l02Course : OkFn Try.prog 107 (S_spec_l02Course R) := by
  refine okFn_of_cwp (good_cons ok_spec_l02Above0 (good_cons ok_spec_l01Angle (good_cons ok_spec_l02Cosine (good_cons ok_spec_l01Sine good_nil)))) follows Try.func107 rfl (by decide) (by decide) ?_
  intro hp args cv deps h
  unfold S_spec_l02Course at h
  split at h
  · cases h
    exact ⟨rfl, (fun d hd => nomatch hd), Nat.le_of_ble_eq_true rfl, _, 40, view_plain rfl, e_spec_l02Course R _ _ _ _⟩
  · cases h

set_option maxRecDepth 100000 in
theorem e_spec_CourseTo (M : FOps) (a0_0 : Nat) (a0_1 : Nat) (a1_0 : Nat) (a1_1 : Nat) : cwp M Try.prog (envOf [(38, S_spec_l02Number M), (42, S_spec_l02Two M), (107, S_spec_l02Course M)]) 40 (Try.f75.body.getD .skip) (retK Try.prog Try.f75.results.toList) (initSt [.agg [.fl .f32 a0_0, .fl .f32 a0_1], .agg [.fl .f32 a1_0, .fl .f32 a1_1]]) = some (F_spec_CourseTo (p_spec_CourseTo M a0_0 a0_1 a1_0 a1_1)) := 
  Eq.trans (b := (brT (!p_spec_l02Two M a0_0 a0_1 a1_0 a1_1) (some (F_spec_CourseTo (0, false))) (some (F_spec_CourseTo ((c0_spec_CourseTo M a0_0 a0_1 a1_0 a1_1).fst, (c0_spec_CourseTo M a0_0 a0_1 a1_0 a1_1).snd))))) (by kernel_rfl)
    ((push2 rfl rfl))

theorem ok_spec_CourseTo : OkFn Try.prog 75 (S_spec_CourseTo R) := by
  refine okFn_of_cwp (good_cons ok_spec_l02Number (good_cons ok_spec_l02Two (good_cons ok_spec_l02Course good_nil))) follows Try.func75 rfl (by decide) (by decide) ?_
  intro hp args cv deps h
  unfold S_spec_CourseTo at h
  split at h
  · cases h
    exact ⟨rfl, (fun d hd => nomatch hd), Nat.le_of_ble_eq_true rfl, _, 40, view_plain rfl, e_spec_CourseTo R _ _ _ _⟩
  · cases h

set_option maxRecDepth 100000 in
theorem e_spec_ApartOf (M : FOps) (a0_0 : Nat) (a0_1 : Nat) (a1_0 : Nat) (a1_1 : Nat) : cwp M Try.prog (envOf [(38, S_spec_l02Number M), (42, S_spec_l02Two M), (50, S_spec_l02Apart M)]) 40 (Try.f76.body.getD .skip) (retK Try.prog Try.f76.results.toList) (initSt [.agg [.fl .f32 a0_0, .fl .f32 a0_1], .agg [.fl .f32 a1_0, .fl .f32 a1_1]]) = some (F_spec_ApartOf (p_spec_ApartOf M a0_0 a0_1 a1_0 a1_1)) := 
  Eq.trans (b := (brT (!p_spec_l02Two M a0_0 a0_1 a1_0 a1_1) (some (F_spec_ApartOf (0, false))) (some (F_spec_ApartOf ((c0_spec_ApartOf M a0_0 a0_1 a1_0 a1_1).fst, (c0_spec_ApartOf M a0_0 a0_1 a1_0 a1_1).snd))))) (by kernel_rfl)
    ((push2 rfl rfl))

theorem ok_spec_ApartOf : OkFn Try.prog 76 (S_spec_ApartOf R) := by
  refine okFn_of_cwp (good_cons ok_spec_l02Number (good_cons ok_spec_l02Two (good_cons ok_spec_l02Apart good_nil))) follows Try.func76 rfl (by decide) (by decide) ?_
  intro hp args cv deps h
  unfold S_spec_ApartOf at h
  split at h
  · cases h
    exact ⟨rfl, (fun d hd => nomatch hd), Nat.le_of_ble_eq_true rfl, _, 40, view_plain rfl, e_spec_ApartOf R _ _ _ _⟩
  · cases h

set_option maxRecDepth 100000 in
theorem e_impl_triangle (M : FOps) (a0_0 : Nat) (a0_1 : Nat) (a1_0 : Nat) (a1_1 : Nat) (a2_0 : Nat) (a2_1 : Nat) : cwp M Try.prog (envOf [(49, S_impl_Place_way M), (62, S_impl_cross M), (63, S_impl_dotOf M), (70, S_impl_AngleTurns M)]) 40 (Try.f40.body.getD .skip) (retK Try.prog Try.f40.results.toList) (initSt [.agg [.fl .f32 a0_0, .fl .f32 a0_1], .agg [.fl .f32 a1_0, .fl .f32 a1_1], .agg [.fl .f32 a2_0, .fl .f32 a2_1]]) = some (F_impl_triangle (p_impl_triangle M a0_0 a0_1 a1_0 a1_1 a2_0 a2_1)) := by kernel_rfl

theorem ok_impl_triangle : OkFn Try.prog 40 (S_impl_triangle R) := by
  refine okFn_of_cwp (good_cons ok_impl_Place_way (good_cons ok_impl_cross (good_cons ok_impl_dotOf (good_cons ok_impl_AngleTurns good_nil)))) follows Try.func40 rfl (by decide) (by decide) ?_
  intro hp args cv deps h
  unfold S_impl_triangle at h
  split at h
  · cases h
    exact ⟨rfl, (fun d hd => nomatch hd), Nat.le_of_ble_eq_true rfl, _, 40, view_plain rfl, e_impl_triangle R _ _ _ _ _ _⟩
  · cases h

set_option maxRecDepth 100000 in
theorem e_spec_l02Triangle (M : FOps) (a0_0 : Nat) (a0_1 : Nat) (a1_0 : Nat) (a1_1 : Nat) (a2_0 : Nat) (a2_1 : Nat) : cwp M Try.prog (envOf [(45, S_spec_l02Way M), (60, S_spec_l02Cross M), (61, S_spec_l02Dot M), (66, S_spec_l01Angle M)]) 40 (Try.f37.body.getD .skip) (retK Try.prog Try.f37.results.toList) (initSt [.agg [.fl .f32 a0_0, .fl .f32 a0_1], .agg [.fl .f32 a1_0, .fl .f32 a1_1], .agg [.fl .f32 a2_0, .fl .f32 a2_1]]) = some (F_spec_l02Triangle (p_spec_l02Triangle M a0_0 a0_1 a1_0 a1_1 a2_0 a2_1)) := by kernel_rfl

theorem ok_spec_l02Triangle : OkFn Try.prog 37 (S_spec_l02Triangle R) := by
  refine okFn_of_cwp (good_cons ok_spec_l02Way (good_cons ok_spec_l02Cross (good_cons ok_spec_l02Dot (good_cons ok_spec_l01Angle good_nil)))) follows Try.func37 rfl (by decide) (by decide) ?_
  intro hp args cv deps h
  unfold S_spec_l02Triangle at h
  split at h
  · cases h
    exact ⟨rfl, (fun d hd => nomatch hd), Nat.le_of_ble_eq_true rfl, _, 40, view_plain rfl, e_spec_l02Triangle R _ _ _ _ _ _⟩
  · cases h

set_option maxRecDepth 100000 in
theorem e_impl_isWay (M : FOps) (a0_0 : Nat) (a0_1 : Nat) (a0_2 : Nat) : cwp M Try.prog (envOf [(56, S_impl_areFinite M)]) 40 (Try.f110.body.getD .skip) (retK Try.prog Try.f110.results.toList) (initSt [.agg [.fl .f32 a0_0, .fl .f32 a0_1, .fl .f32 a0_2]]) = some (F_impl_isWay (p_impl_isWay M a0_0 a0_1 a0_2)) := by kernel_rfl

theorem ok_impl_isWay : OkFn Try.prog 110 (S_impl_isWay R) := by
  refine okFn_of_cwp (good_cons ok_impl_areFinite good_nil) follows Try.func110 rfl (by decide) (by decide) ?_
  intro hp args cv deps h
  unfold S_impl_isWay at h
  split at h
  · cases h
    exact ⟨rfl, (fun d hd => nomatch hd), Nat.le_of_ble_eq_true rfl, _, 40, view_plain rfl, e_impl_isWay R _ _ _⟩
  · cases h

set_option maxRecDepth 100000 in
theorem e_impl_LongOfWay (M : FOps) (a0_0 : Nat) (a0_1 : Nat) (a0_2 : Nat) : cwp M Try.prog (envOf [(41, S_impl_finite M), (63, S_impl_dotOf M), (77, S_impl_IsFinite M), (92, S_impl_Way_long M), (110, S_impl_isWay M)]) 40 (Try.f89.body.getD .skip) (retK Try.prog Try.f89.results.toList) (initSt [.agg [.fl .f32 a0_0, .fl .f32 a0_1, .fl .f32 a0_2]]) = some (F_impl_LongOfWay (p_impl_LongOfWay M a0_0 a0_1 a0_2)) := 
  Eq.trans (b := (brT (p_impl_isWay M a0_0 a0_1 a0_2) (some (F_impl_LongOfWay ((c0_impl_LongOfWay M a0_0 a0_1 a0_2).fst, (c0_impl_LongOfWay M a0_0 a0_1 a0_2).snd))) (some (F_impl_LongOfWay ((c1_impl_LongOfWay M a0_0 a0_1 a0_2).fst, (c1_impl_LongOfWay M a0_0 a0_1 a0_2).snd))))) (by kernel_rfl)
    ((push2 rfl rfl))

theorem ok_impl_LongOfWay : OkFn Try.prog 89 (S_impl_LongOfWay R) := by
  refine okFn_of_cwp (good_cons ok_impl_finite (good_cons ok_impl_dotOf (good_cons ok_impl_IsFinite (good_cons ok_impl_Way_long (good_cons ok_impl_isWay good_nil))))) follows Try.func89 rfl (by decide) (by decide) ?_
  intro hp args cv deps h
  unfold S_impl_LongOfWay at h
  split at h
  · cases h
    exact ⟨rfl, (fun d hd => nomatch hd), Nat.le_of_ble_eq_true rfl, _, 40, view_plain rfl, e_impl_LongOfWay R _ _ _⟩
  · cases h

set_option maxRecDepth 100000 in
theorem e_impl_PlaceOfWay (M : FOps) (a0_0 : Nat) (a0_1 : Nat) (a0_2 : Nat) : cwp M Try.prog (envOf [(70, S_impl_AngleTurns M), (71, S_impl_wrap M), (89, S_impl_LongOfWay M), (90, S_impl_RootNumber M), (91, S_impl_valid M)]) 40 (Try.f47.body.getD .skip) (retK Try.prog Try.f47.results.toList) (initSt [.agg [.fl .f32 a0_0, .fl .f32 a0_1, .fl .f32 a0_2]]) = some (F_impl_PlaceOfWay (p_impl_PlaceOfWay M a0_0 a0_1 a0_2)) := 
  Eq.trans (b := (brT (!(c0_impl_PlaceOfWay M a0_0 a0_1 a0_2).snd) (some (F_impl_PlaceOfWay (0, 0, false))) (brT (!M.cmp BinOp.gtr FloatKind.f32 (c0_impl_PlaceOfWay M a0_0 a0_1 a0_2).fst 0) (some (F_impl_PlaceOfWay (0, 0, false))) (some (F_impl_PlaceOfWay ((c1_impl_PlaceOfWay M a0_0 a0_1 a0_2).fst, (c1_impl_PlaceOfWay M a0_0 a0_1 a0_2).snd.fst, (c1_impl_PlaceOfWay M a0_0 a0_1 a0_2).snd.snd)))))) (by kernel_rfl)
    ((push2 rfl (push2 rfl rfl)))

theorem ok_impl_PlaceOfWay : OkFn Try.prog 47 (S_impl_PlaceOfWay R) := by
  refine okFn_of_cwp (good_cons ok_impl_AngleTurns (good_cons ok_impl_wrap (good_cons ok_impl_LongOfWay (good_cons ok_impl_RootNumber (good_cons ok_impl_valid good_nil))))) follows Try.func47 rfl (by decide) (by decide) ?_
  intro hp args cv deps h
  unfold S_impl_PlaceOfWay at h
  split at h
  · cases h
    exact ⟨rfl, (fun d hd => nomatch hd), Nat.le_of_ble_eq_true rfl, _, 40, view_plain rfl, e_impl_PlaceOfWay R _ _ _⟩
  · cases h

set_option maxRecDepth 100000 in
theorem e_spec_l02From (M : FOps) (a0_0 : Nat) (a0_1 : Nat) (a0_2 : Nat) : cwp M Try.prog (envOf [(66, S_spec_l01Angle M), (67, S_spec_l02Wrap M), (81, S_spec_l02Long M), (82, S_spec_l02Ways M), (83, S_spec_l02Above M), (84, S_spec_l01Sqrt M), (85, S_spec_l02Give M)]) 40 (Try.f43.body.getD .skip) (retK Try.prog Try.f43.results.toList) (initSt [.agg [.fl .f32 a0_0, .fl .f32 a0_1, .fl .f32 a0_2]]) = some (F_spec_l02From (p_spec_l02From M a0_0 a0_1 a0_2)) := 
  Eq.trans (b := (brT (!p_spec_l02Ways M a0_0 a0_1 a0_2) (some (F_spec_l02From (0, 0, false))) (brT (!p_spec_l02Above M (p_spec_l02Long M a0_0 a0_1 a0_2)) (some (F_spec_l02From (0, 0, false))) (some (F_spec_l02From ((c0_spec_l02From M a0_0 a0_1 a0_2).fst, (c0_spec_l02From M a0_0 a0_1 a0_2).snd.fst, (c0_spec_l02From M a0_0 a0_1 a0_2).snd.snd)))))) (by kernel_rfl)
    ((push2 rfl (push2 rfl rfl)))

theorem ok_spec_l02From : OkFn Try.prog 43 (S_spec_l02From R) := by
  refine okFn_of_cwp (good_cons ok_spec_l01Angle (good_cons ok_spec_l02Wrap (good_cons ok_spec_l02Long (good_cons ok_spec_l02Ways (good_cons ok_spec_l02Above (good_cons ok_spec_l01Sqrt (good_cons ok_spec_l02Give good_nil))))))) follows Try.func43 rfl (by decide) (by decide) ?_
  intro hp args cv deps h
  unfold S_spec_l02From at h
  split at h
  · cases h
    exact ⟨rfl, (fun d hd => nomatch hd), Nat.le_of_ble_eq_true rfl, _, 40, view_plain rfl, e_spec_l02From R _ _ _⟩
  · cases h

set_option maxRecDepth 100000 in
theorem e_impl_GoFrom (M : FOps) (a0_0 : Nat) (a0_1 : Nat) (a1 : Nat) (a2 : Nat) : cwp M Try.prog (envOf [(47, S_impl_PlaceOfWay M), (49, S_impl_Place_way M), (55, S_impl_ValidPlace M), (56, S_impl_areFinite M), (57, S_impl_SineTurns M), (58, S_impl_cosine M), (59, S_impl_sumOf M)]) 40 (Try.f25.body.getD .skip) (retK Try.prog Try.f25.results.toList) (initSt [.agg [.fl .f32 a0_0, .fl .f32 a0_1], .s (.fl .f32 a1), .s (.fl .f32 a2)]) = some (F_impl_GoFrom (p_impl_GoFrom M a0_0 a0_1 a1 a2)) := 
  Eq.trans (b := (brT (!p_impl_ValidPlace M a0_0 a0_1) (some (F_impl_GoFrom (0, 0, false))) (brT (!(p_impl_IsFinite M a1 && (p_impl_IsFinite M a2 && true))) (some (F_impl_GoFrom (0, 0, false))) (some (F_impl_GoFrom ((c5_impl_GoFrom M a0_0 a0_1 a1 a2).fst, (c5_impl_GoFrom M a0_0 a0_1 a1 a2).snd.fst, (c5_impl_GoFrom M a0_0 a0_1 a1 a2).snd.snd)))))) (by kernel_rfl)
    ((push2 rfl (push2 rfl rfl)))

theorem ok_impl_GoFrom : OkFn Try.prog 25 (S_impl_GoFrom R) := by
  refine okFn_of_cwp (good_cons ok_impl_PlaceOfWay (good_cons ok_impl_Place_way (good_cons ok_impl_ValidPlace (good_cons ok_impl_areFinite (good_cons ok_impl_SineTurns (good_cons ok_impl_cosine (good_cons ok_impl_sumOf good_nil))))))) follows Try.func25 rfl (by decide) (by decide) ?_
  intro hp args cv deps h
  unfold S_impl_GoFrom at h
  split at h
  · cases h
    exact ⟨rfl, (fun d hd => nomatch hd), Nat.le_of_ble_eq_true rfl, _, 40, view_plain rfl, e_impl_GoFrom R _ _ _ _⟩
  · cases h

set_option maxRecDepth 100000 in
theorem e_spec_l02Go (M : FOps) (a0_0 : Nat) (a0_1 : Nat) (a1 : Nat) (a2 : Nat) : cwp M Try.prog (envOf [(43, S_spec_l02From M), (44, S_spec_l02Add M), (45, S_spec_l02Way M), (72, S_spec_l02Cosine M), (86, S_spec_l01Sine M), (93, S_spec_l02Times M)]) 40 (Try.f54.body.getD .skip) (retK Try.prog Try.f54.results.toList) (initSt [.agg [.fl .f32 a0_0, .fl .f32 a0_1], .s (.fl .f32 a1), .s (.fl .f32 a2)]) = some (F_spec_l02Go (p_spec_l02Go M a0_0 a0_1 a1 a2)) := by kernel_rfl

theorem ok_spec_l02Go : OkFn Try.prog 54 (S_spec_l02Go R) := by
  refine okFn_of_cwp (good_cons ok_spec_l02From (good_cons ok_spec_l02Add (good_cons ok_spec_l02Way (good_cons ok_spec_l02Cosine (good_cons ok_spec_l01Sine (good_cons ok_spec_l02Times good_nil)))))) follows Try.func54 rfl (by decide) (by decide) ?_
  intro hp args cv deps h
  unfold S_spec_l02Go at h
  split at h
  · cases h
    exact ⟨rfl, (fun d hd => nomatch hd), Nat.le_of_ble_eq_true rfl, _, 40, view_plain rfl, e_spec_l02Go R _ _ _ _⟩
  · cases h

set_option maxRecDepth 100000 in
theorem e_spec_GoFrom (M : FOps) (a0_0 : Nat) (a0_1 : Nat) (a1 : Nat) (a2 : Nat) : cwp M Try.prog (envOf [(52, S_spec_l02Is M), (53, S_spec_l01Finite M), (54, S_spec_l02Go M)]) 40 (Try.f24.body.getD .skip) (retK Try.prog Try.f24.results.toList) (initSt [.agg [.fl .f32 a0_0, .fl .f32 a0_1], .s (.fl .f32 a1), .s (.fl .f32 a2)]) = some (F_spec_GoFrom (p_spec_GoFrom M a0_0 a0_1 a1 a2)) := 
  Eq.trans (b := (brT (!p_spec_l02Is M a0_0 a0_1) (some (F_spec_GoFrom (0, 0, false))) (brT (!p_spec_l01Finite M a1) (some (F_spec_GoFrom (0, 0, false))) (brT (!p_spec_l01Finite M a2) (some (F_spec_GoFrom (0, 0, false))) (some (F_spec_GoFrom ((c0_spec_GoFrom M a0_0 a0_1 a1 a2).fst, (c0_spec_GoFrom M a0_0 a0_1 a1 a2).snd.fst, (c0_spec_GoFrom M a0_0 a0_1 a1 a2).snd.snd))))))) (by kernel_rfl)
    ((push2 rfl (push2 rfl (push2 rfl rfl))))

theorem ok_spec_GoFrom : OkFn Try.prog 24 (S_spec_GoFrom R) := by
  refine okFn_of_cwp (good_cons ok_spec_l02Is (good_cons ok_spec_l01Finite (good_cons ok_spec_l02Go good_nil))) follows Try.func24 rfl (by decide) (by decide) ?_
  intro hp args cv deps h
  unfold S_spec_GoFrom at h
  split at h
  · cases h
    exact ⟨rfl, (fun d hd => nomatch hd), Nat.le_of_ble_eq_true rfl, _, 40, view_plain rfl, e_spec_GoFrom R _ _ _ _⟩
  · cases h

set_option maxRecDepth 100000 in
theorem e_impl_MidwayOf (M : FOps) (a0_0 : Nat) (a0_1 : Nat) (a1_0 : Nat) (a1_1 : Nat) : cwp M Try.prog (envOf [(46, S_impl_areValid M), (47, S_impl_PlaceOfWay M), (48, S_impl_plusWays M), (49, S_impl_Place_way M)]) 40 (Try.f20.body.getD .skip) (retK Try.prog Try.f20.results.toList) (initSt [.agg [.fl .f32 a0_0, .fl .f32 a0_1], .agg [.fl .f32 a1_0, .fl .f32 a1_1]]) = some (F_impl_MidwayOf (p_impl_MidwayOf M a0_0 a0_1 a1_0 a1_1)) := 
  Eq.trans (b := (brT (!(p_impl_ValidPlace M a0_0 a0_1 && (p_impl_ValidPlace M a1_0 a1_1 && true))) (some (F_impl_MidwayOf (0, 0, false))) (some (F_impl_MidwayOf ((c3_impl_MidwayOf M a0_0 a0_1 a1_0 a1_1).fst, (c3_impl_MidwayOf M a0_0 a0_1 a1_0 a1_1).snd.fst, (c3_impl_MidwayOf M a0_0 a0_1 a1_0 a1_1).snd.snd))))) (by kernel_rfl)
    ((push2 rfl rfl))

theorem ok_impl_MidwayOf : OkFn Try.prog 20 (S_impl_MidwayOf R) := by
  refine okFn_of_cwp (good_cons ok_impl_areValid (good_cons ok_impl_PlaceOfWay (good_cons ok_impl_plusWays (good_cons ok_impl_Place_way good_nil)))) follows Try.func20 rfl (by decide) (by decide) ?_
  intro hp args cv deps h
  unfold S_impl_MidwayOf at h
  split at h
  · cases h
    exact ⟨rfl, (fun d hd => nomatch hd), Nat.le_of_ble_eq_true rfl, _, 40, view_plain rfl, e_impl_MidwayOf R _ _ _ _⟩
  · cases h

set_option maxRecDepth 100000 in
theorem e_spec_MidwayOf (M : FOps) (a0_0 : Nat) (a0_1 : Nat) (a1_0 : Nat) (a1_1 : Nat) : cwp M Try.prog (envOf [(42, S_spec_l02Two M), (43, S_spec_l02From M), (44, S_spec_l02Add M), (45, S_spec_l02Way M)]) 40 (Try.f18.body.getD .skip) (retK Try.prog Try.f18.results.toList) (initSt [.agg [.fl .f32 a0_0, .fl .f32 a0_1], .agg [.fl .f32 a1_0, .fl .f32 a1_1]]) = some (F_spec_MidwayOf (p_spec_MidwayOf M a0_0 a0_1 a1_0 a1_1)) := 
  Eq.trans (b := (brT (!p_spec_l02Two M a0_0 a0_1 a1_0 a1_1) (some (F_spec_MidwayOf (0, 0, false))) (some (F_spec_MidwayOf ((c3_spec_MidwayOf M a0_0 a0_1 a1_0 a1_1).fst, (c3_spec_MidwayOf M a0_0 a0_1 a1_0 a1_1).snd.fst, (c3_spec_MidwayOf M a0_0 a0_1 a1_0 a1_1).snd.snd))))) (by kernel_rfl)
    ((push2 rfl rfl))

theorem ok_spec_MidwayOf : OkFn Try.prog 18 (S_spec_MidwayOf R) := by
  refine okFn_of_cwp (good_cons ok_spec_l02Two (good_cons ok_spec_l02From (good_cons ok_spec_l02Add (good_cons ok_spec_l02Way good_nil)))) follows Try.func18 rfl (by decide) (by decide) ?_
  intro hp args cv deps h
  unfold S_spec_MidwayOf at h
  split at h
  · cases h
    exact ⟨rfl, (fun d hd => nomatch hd), Nat.le_of_ble_eq_true rfl, _, 40, view_plain rfl, e_spec_MidwayOf R _ _ _ _⟩
  · cases h

set_option maxRecDepth 100000 in
theorem e_impl_MeetOfWays (M : FOps) (a0_0 : Nat) (a0_1 : Nat) (a1_0 : Nat) (a1_1 : Nat) (a2_0 : Nat) (a2_1 : Nat) (a3_0 : Nat) (a3_1 : Nat) : cwp M Try.prog (envOf [(46, S_impl_areValid M), (47, S_impl_PlaceOfWay M), (48, S_impl_plusWays M), (49, S_impl_Place_way M), (62, S_impl_cross M), (63, S_impl_dotOf M)]) 40 (Try.f27.body.getD .skip) (retK Try.prog Try.f27.results.toList) (initSt [.agg [.fl .f32 a0_0, .fl .f32 a0_1], .agg [.fl .f32 a1_0, .fl .f32 a1_1], .agg [.fl .f32 a2_0, .fl .f32 a2_1], .agg [.fl .f32 a3_0, .fl .f32 a3_1]]) = some (F_impl_MeetOfWays (p_impl_MeetOfWays M a0_0 a0_1 a1_0 a1_1 a2_0 a2_1 a3_0 a3_1)) := 
  Eq.trans (b := (brT (!(p_impl_ValidPlace M a0_0 a0_1 && (p_impl_ValidPlace M a1_0 a1_1 && (p_impl_ValidPlace M a2_0 a2_1 && (p_impl_ValidPlace M a3_0 a3_1 && true))))) (some (F_impl_MeetOfWays (0, 0, false))) (brT (M.cmp BinOp.lss FloatKind.f32 (p_impl_dotOf M (c6_impl_MeetOfWays M a0_0 a0_1 a1_0 a1_1 a2_0 a2_1 a3_0 a3_1).fst (c6_impl_MeetOfWays M a0_0 a0_1 a1_0 a1_1 a2_0 a2_1 a3_0 a3_1).snd.fst (c6_impl_MeetOfWays M a0_0 a0_1 a1_0 a1_1 a2_0 a2_1 a3_0 a3_1).snd.snd (c7_impl_MeetOfWays M a0_0 a0_1 a1_0 a1_1 a2_0 a2_1 a3_0 a3_1).fst (c7_impl_MeetOfWays M a0_0 a0_1 a1_0 a1_1 a2_0 a2_1 a3_0 a3_1).snd.fst (c7_impl_MeetOfWays M a0_0 a0_1 a1_0 a1_1 a2_0 a2_1 a3_0 a3_1).snd.snd) 0) (some (F_impl_MeetOfWays ((c8_impl_MeetOfWays M a0_0 a0_1 a1_0 a1_1 a2_0 a2_1 a3_0 a3_1).fst, (c8_impl_MeetOfWays M a0_0 a0_1 a1_0 a1_1 a2_0 a2_1 a3_0 a3_1).snd.fst, (c8_impl_MeetOfWays M a0_0 a0_1 a1_0 a1_1 a2_0 a2_1 a3_0 a3_1).snd.snd))) (some (F_impl_MeetOfWays ((c9_impl_MeetOfWays M a0_0 a0_1 a1_0 a1_1 a2_0 a2_1 a3_0 a3_1).fst, (c9_impl_MeetOfWays M a0_0 a0_1 a1_0 a1_1 a2_0 a2_1 a3_0 a3_1).snd.fst, (c9_impl_MeetOfWays M a0_0 a0_1 a1_0 a1_1 a2_0 a2_1 a3_0 a3_1).snd.snd)))))) (by kernel_rfl)
    ((push2 rfl (push2 rfl rfl)))

theorem ok_impl_MeetOfWays : OkFn Try.prog 27 (S_impl_MeetOfWays R) := by
  refine okFn_of_cwp (good_cons ok_impl_areValid (good_cons ok_impl_PlaceOfWay (good_cons ok_impl_plusWays (good_cons ok_impl_Place_way (good_cons ok_impl_cross (good_cons ok_impl_dotOf good_nil)))))) follows Try.func27 rfl (by decide) (by decide) ?_
  intro hp args cv deps h
  unfold S_impl_MeetOfWays at h
  split at h
  · cases h
    exact ⟨rfl, (fun d hd => nomatch hd), Nat.le_of_ble_eq_true rfl, _, 40, view_plain rfl, e_impl_MeetOfWays R _ _ _ _ _ _ _ _⟩
  · cases h

set_option maxRecDepth 100000 in
theorem e_spec_MeetOfWays (M : FOps) (a0_0 : Nat) (a0_1 : Nat) (a1_0 : Nat) (a1_1 : Nat) (a2_0 : Nat) (a2_1 : Nat) (a3_0 : Nat) (a3_1 : Nat) : cwp M Try.prog (envOf [(42, S_spec_l02Two M), (43, S_spec_l02From M), (44, S_spec_l02Add M), (45, S_spec_l02Way M), (60, S_spec_l02Cross M), (61, S_spec_l02Dot M)]) 40 (Try.f26.body.getD .skip) (retK Try.prog Try.f26.results.toList) (initSt [.agg [.fl .f32 a0_0, .fl .f32 a0_1], .agg [.fl .f32 a1_0, .fl .f32 a1_1], .agg [.fl .f32 a2_0, .fl .f32 a2_1], .agg [.fl .f32 a3_0, .fl .f32 a3_1]]) = some (F_spec_MeetOfWays (p_spec_MeetOfWays M a0_0 a0_1 a1_0 a1_1 a2_0 a2_1 a3_0 a3_1)) := 
  Eq.trans (b := (brT (!p_spec_l02Two M a0_0 a0_1 a1_0 a1_1) (some (F_spec_MeetOfWays (0, 0, false))) (brT (!p_spec_l02Two M a2_0 a2_1 a3_0 a3_1) (some (F_spec_MeetOfWays (0, 0, false))) (brT (M.cmp BinOp.lss FloatKind.f32 (p_spec_l02Dot M (c6_spec_MeetOfWays M a0_0 a0_1 a1_0 a1_1 a2_0 a2_1 a3_0 a3_1).fst (c6_spec_MeetOfWays M a0_0 a0_1 a1_0 a1_1 a2_0 a2_1 a3_0 a3_1).snd.fst (c6_spec_MeetOfWays M a0_0 a0_1 a1_0 a1_1 a2_0 a2_1 a3_0 a3_1).snd.snd (c7_spec_MeetOfWays M a0_0 a0_1 a1_0 a1_1 a2_0 a2_1 a3_0 a3_1).fst (c7_spec_MeetOfWays M a0_0 a0_1 a1_0 a1_1 a2_0 a2_1 a3_0 a3_1).snd.fst (c7_spec_MeetOfWays M a0_0 a0_1 a1_0 a1_1 a2_0 a2_1 a3_0 a3_1).snd.snd) 0) (some (F_spec_MeetOfWays ((c8_spec_MeetOfWays M a0_0 a0_1 a1_0 a1_1 a2_0 a2_1 a3_0 a3_1).fst, (c8_spec_MeetOfWays M a0_0 a0_1 a1_0 a1_1 a2_0 a2_1 a3_0 a3_1).snd.fst, (c8_spec_MeetOfWays M a0_0 a0_1 a1_0 a1_1 a2_0 a2_1 a3_0 a3_1).snd.snd))) (some (F_spec_MeetOfWays ((c9_spec_MeetOfWays M a0_0 a0_1 a1_0 a1_1 a2_0 a2_1 a3_0 a3_1).fst, (c9_spec_MeetOfWays M a0_0 a0_1 a1_0 a1_1 a2_0 a2_1 a3_0 a3_1).snd.fst, (c9_spec_MeetOfWays M a0_0 a0_1 a1_0 a1_1 a2_0 a2_1 a3_0 a3_1).snd.snd))))))) (by kernel_rfl)
    ((push2 rfl (push2 rfl (push2 rfl rfl))))

theorem ok_spec_MeetOfWays : OkFn Try.prog 26 (S_spec_MeetOfWays R) := by
  refine okFn_of_cwp (good_cons ok_spec_l02Two (good_cons ok_spec_l02From (good_cons ok_spec_l02Add (good_cons ok_spec_l02Way (good_cons ok_spec_l02Cross (good_cons ok_spec_l02Dot good_nil)))))) follows Try.func26 rfl (by decide) (by decide) ?_
  intro hp args cv deps h
  unfold S_spec_MeetOfWays at h
  split at h
  · cases h
    exact ⟨rfl, (fun d hd => nomatch hd), Nat.le_of_ble_eq_true rfl, _, 40, view_plain rfl, e_spec_MeetOfWays R _ _ _ _ _ _ _ _⟩
  · cases h

set_option maxRecDepth 100000 in
theorem e_impl_ShareOfWay (M : FOps) (a0_0 : Nat) (a0_1 : Nat) (a1_0 : Nat) (a1_1 : Nat) (a2 : Nat) : cwp M Try.prog (envOf [(25, S_impl_GoFrom M), (46, S_impl_areValid M), (51, S_impl_apart M), (77, S_impl_IsFinite M), (78, S_impl_course M)]) 40 (Try.f35.body.getD .skip) (retK Try.prog Try.f35.results.toList) (initSt [.agg [.fl .f32 a0_0, .fl .f32 a0_1], .agg [.fl .f32 a1_0, .fl .f32 a1_1], .s (.fl .f32 a2)]) = some (F_impl_ShareOfWay (p_impl_ShareOfWay M a0_0 a0_1 a1_0 a1_1 a2)) := 
  Eq.trans (b := (brT (!(p_impl_ValidPlace M a0_0 a0_1 && (p_impl_ValidPlace M a1_0 a1_1 && true))) (some (F_impl_ShareOfWay (0, 0, false))) (brT (!p_impl_IsFinite M a2) (some (F_impl_ShareOfWay (0, 0, false))) (some (F_impl_ShareOfWay ((c0_impl_ShareOfWay M a0_0 a0_1 a1_0 a1_1 a2).fst, (c0_impl_ShareOfWay M a0_0 a0_1 a1_0 a1_1 a2).snd.fst, (c0_impl_ShareOfWay M a0_0 a0_1 a1_0 a1_1 a2).snd.snd)))))) (by kernel_rfl)
    ((push2 rfl (push2 rfl rfl)))

theorem ok_impl_ShareOfWay : OkFn Try.prog 35 (S_impl_ShareOfWay R) := by
  refine okFn_of_cwp (good_cons ok_impl_GoFrom (good_cons ok_impl_areValid (good_cons ok_impl_apart (good_cons ok_impl_IsFinite (good_cons ok_impl_course good_nil))))) follows Try.func35 rfl (by decide) (by decide) ?_
  intro hp args cv deps h
  unfold S_impl_ShareOfWay at h
  split at h
  · cases h
    exact ⟨rfl, (fun d hd => nomatch hd), Nat.le_of_ble_eq_true rfl, _, 40, view_plain rfl, e_impl_ShareOfWay R _ _ _ _ _⟩
  · cases h

set_option maxRecDepth 100000 in
theorem e_spec_ShareOfWay (M : FOps) (a0_0 : Nat) (a0_1 : Nat) (a1_0 : Nat) (a1_1 : Nat) (a2 : Nat) : cwp M Try.prog (envOf [(53, S_spec_l01Finite M), (54, S_spec_l02Go M), (75, S_spec_CourseTo M), (76, S_spec_ApartOf M)]) 40 (Try.f34.body.getD .skip) (retK Try.prog Try.f34.results.toList) (initSt [.agg [.fl .f32 a0_0, .fl .f32 a0_1], .agg [.fl .f32 a1_0, .fl .f32 a1_1], .s (.fl .f32 a2)]) = some (F_spec_ShareOfWay (p_spec_ShareOfWay M a0_0 a0_1 a1_0 a1_1 a2)) := 
  Eq.trans (b := (brT (!(c0_spec_ShareOfWay M a0_0 a0_1 a1_0 a1_1 a2).snd) (some (F_spec_ShareOfWay (0, 0, false))) (brT (!(c1_spec_ShareOfWay M a0_0 a0_1 a1_0 a1_1 a2).snd) (some (F_spec_ShareOfWay (0, 0, false))) (brT (!p_spec_l01Finite M a2) (some (F_spec_ShareOfWay (0, 0, false))) (brT (!p_spec_l01Finite M (c2_spec_ShareOfWay M a0_0 a0_1 a1_0 a1_1 a2)) (some (F_spec_ShareOfWay (0, 0, false))) (some (F_spec_ShareOfWay ((c3_spec_ShareOfWay M a0_0 a0_1 a1_0 a1_1 a2).fst, (c3_spec_ShareOfWay M a0_0 a0_1 a1_0 a1_1 a2).snd.fst, (c3_spec_ShareOfWay M a0_0 a0_1 a1_0 a1_1 a2).snd.snd)))))))) (by kernel_rfl)
    ((push2 rfl (push2 rfl (push2 rfl (push2 rfl rfl)))))

theorem ok_spec_ShareOfWay : OkFn Try.prog 34 (S_spec_ShareOfWay R) := by
  refine okFn_of_cwp (good_cons ok_spec_l01Finite (good_cons ok_spec_l02Go (good_cons ok_spec_CourseTo (good_cons ok_spec_ApartOf good_nil)))) follows Try.func34 rfl (by decide) (by decide) ?_
  intro hp args cv deps h
  unfold S_spec_ShareOfWay at h
  split at h
  · cases h
    exact ⟨rfl, (fun d hd => nomatch hd), Nat.le_of_ble_eq_true rfl, _, 40, view_plain rfl, e_spec_ShareOfWay R _ _ _ _ _⟩
  · cases h

set_option maxRecDepth 100000 in
theorem e_laws_FnExactGoFrom (M : FOps) (a0_0 : Nat) (a0_1 : Nat) (a1 : Nat) (a2 : Nat) : cwp M Try.prog (envOf [(19, S_laws_toPlace M), (21, S_laws_eqPlace M), (24, S_spec_GoFrom M), (25, S_impl_GoFrom M)]) 40 (Try.f6.body.getD .skip) (retK Try.prog Try.f6.results.toList) (initSt [.agg [.fl .f32 a0_0, .fl .f32 a0_1], .s (.fl .f32 a1), .s (.fl .f32 a2)]) = some (F_laws_FnExactGoFrom (p_laws_FnExactGoFrom M a0_0 a0_1 a1 a2)) := 
  Eq.trans (b := (brT (!p_laws_eqPlace M (c1_laws_FnExactGoFrom M a0_0 a0_1 a1 a2).fst (c1_laws_FnExactGoFrom M a0_0 a0_1 a1 a2).snd.fst (c2_laws_FnExactGoFrom M a0_0 a0_1 a1 a2).fst (c2_laws_FnExactGoFrom M a0_0 a0_1 a1 a2).snd.fst) (some (F_laws_FnExactGoFrom (false))) (brT ((c1_laws_FnExactGoFrom M a0_0 a0_1 a1 a2).snd.snd != (c2_laws_FnExactGoFrom M a0_0 a0_1 a1 a2).snd.snd) (some (F_laws_FnExactGoFrom (false))) (some (F_laws_FnExactGoFrom (true)))))) (by kernel_rfl)
    ((push2 rfl (push2 rfl rfl)))

theorem ok_laws_FnExactGoFrom : OkFn Try.prog 6 (S_laws_FnExactGoFrom R) := by
  refine okFn_of_cwp (good_cons ok_laws_toPlace (good_cons ok_laws_eqPlace (good_cons ok_spec_GoFrom (good_cons ok_impl_GoFrom good_nil)))) follows Try.func6 rfl (by decide) (by decide) ?_
  intro hp args cv deps h
  unfold S_laws_FnExactGoFrom at h
  split at h
  · cases h
    exact ⟨rfl, (fun d hd => nomatch hd), Nat.le_of_ble_eq_true rfl, _, 40, view_plain rfl, e_laws_FnExactGoFrom R _ _ _ _⟩
  · cases h

set_option maxRecDepth 100000 in
theorem e_laws_FnExactMidwayOf (M : FOps) (a0_0 : Nat) (a0_1 : Nat) (a1_0 : Nat) (a1_1 : Nat) : cwp M Try.prog (envOf [(18, S_spec_MidwayOf M), (19, S_laws_toPlace M), (20, S_impl_MidwayOf M), (21, S_laws_eqPlace M)]) 40 (Try.f4.body.getD .skip) (retK Try.prog Try.f4.results.toList) (initSt [.agg [.fl .f32 a0_0, .fl .f32 a0_1], .agg [.fl .f32 a1_0, .fl .f32 a1_1]]) = some (F_laws_FnExactMidwayOf (p_laws_FnExactMidwayOf M a0_0 a0_1 a1_0 a1_1)) := 
  Eq.trans (b := (brT (!p_laws_eqPlace M (c2_laws_FnExactMidwayOf M a0_0 a0_1 a1_0 a1_1).fst (c2_laws_FnExactMidwayOf M a0_0 a0_1 a1_0 a1_1).snd.fst (c3_laws_FnExactMidwayOf M a0_0 a0_1 a1_0 a1_1).fst (c3_laws_FnExactMidwayOf M a0_0 a0_1 a1_0 a1_1).snd.fst) (some (F_laws_FnExactMidwayOf (false))) (brT ((c2_laws_FnExactMidwayOf M a0_0 a0_1 a1_0 a1_1).snd.snd != (c3_laws_FnExactMidwayOf M a0_0 a0_1 a1_0 a1_1).snd.snd) (some (F_laws_FnExactMidwayOf (false))) (some (F_laws_FnExactMidwayOf (true)))))) (by kernel_rfl)
    ((push2 rfl (push2 rfl rfl)))

theorem ok_laws_FnExactMidwayOf : OkFn Try.prog 4 (S_laws_FnExactMidwayOf R) := by
  refine okFn_of_cwp (good_cons ok_spec_MidwayOf (good_cons ok_laws_toPlace (good_cons ok_impl_MidwayOf (good_cons ok_laws_eqPlace good_nil)))) follows Try.func4 rfl (by decide) (by decide) ?_
  intro hp args cv deps h
  unfold S_laws_FnExactMidwayOf at h
  split at h
  · cases h
    exact ⟨rfl, (fun d hd => nomatch hd), Nat.le_of_ble_eq_true rfl, _, 40, view_plain rfl, e_laws_FnExactMidwayOf R _ _ _ _⟩
  · cases h

set_option maxRecDepth 100000 in
theorem e_laws_FnExactMeetOfWays (M : FOps) (a0_0 : Nat) (a0_1 : Nat) (a1_0 : Nat) (a1_1 : Nat) (a2_0 : Nat) (a2_1 : Nat) (a3_0 : Nat) (a3_1 : Nat) : cwp M Try.prog (envOf [(19, S_laws_toPlace M), (21, S_laws_eqPlace M), (26, S_spec_MeetOfWays M), (27, S_impl_MeetOfWays M)]) 40 (Try.f7.body.getD .skip) (retK Try.prog Try.f7.results.toList) (initSt [.agg [.fl .f32 a0_0, .fl .f32 a0_1], .agg [.fl .f32 a1_0, .fl .f32 a1_1], .agg [.fl .f32 a2_0, .fl .f32 a2_1], .agg [.fl .f32 a3_0, .fl .f32 a3_1]]) = some (F_laws_FnExactMeetOfWays (p_laws_FnExactMeetOfWays M a0_0 a0_1 a1_0 a1_1 a2_0 a2_1 a3_0 a3_1)) := 
  Eq.trans (b := (brT (!p_laws_eqPlace M (c4_laws_FnExactMeetOfWays M a0_0 a0_1 a1_0 a1_1 a2_0 a2_1 a3_0 a3_1).fst (c4_laws_FnExactMeetOfWays M a0_0 a0_1 a1_0 a1_1 a2_0 a2_1 a3_0 a3_1).snd.fst (c5_laws_FnExactMeetOfWays M a0_0 a0_1 a1_0 a1_1 a2_0 a2_1 a3_0 a3_1).fst (c5_laws_FnExactMeetOfWays M a0_0 a0_1 a1_0 a1_1 a2_0 a2_1 a3_0 a3_1).snd.fst) (some (F_laws_FnExactMeetOfWays (false))) (brT ((c4_laws_FnExactMeetOfWays M a0_0 a0_1 a1_0 a1_1 a2_0 a2_1 a3_0 a3_1).snd.snd != (c5_laws_FnExactMeetOfWays M a0_0 a0_1 a1_0 a1_1 a2_0 a2_1 a3_0 a3_1).snd.snd) (some (F_laws_FnExactMeetOfWays (false))) (some (F_laws_FnExactMeetOfWays (true)))))) (by kernel_rfl)
    ((push2 rfl (push2 rfl rfl)))

theorem ok_laws_FnExactMeetOfWays : OkFn Try.prog 7 (S_laws_FnExactMeetOfWays R) := by
  refine okFn_of_cwp (good_cons ok_laws_toPlace (good_cons ok_laws_eqPlace (good_cons ok_spec_MeetOfWays (good_cons ok_impl_MeetOfWays good_nil)))) follows Try.func7 rfl (by decide) (by decide) ?_
  intro hp args cv deps h
  unfold S_laws_FnExactMeetOfWays at h
  split at h
  · cases h
    exact ⟨rfl, (fun d hd => nomatch hd), Nat.le_of_ble_eq_true rfl, _, 40, view_plain rfl, e_laws_FnExactMeetOfWays R _ _ _ _ _ _ _ _⟩
  · cases h

set_option maxRecDepth 100000 in
theorem e_laws_FnExactShareOfWay (M : FOps) (a0_0 : Nat) (a0_1 : Nat) (a1_0 : Nat) (a1_1 : Nat) (a2 : Nat) : cwp M Try.prog (envOf [(19, S_laws_toPlace M), (21, S_laws_eqPlace M), (34, S_spec_ShareOfWay M), (35, S_impl_ShareOfWay M)]) 40 (Try.f11.body.getD .skip) (retK Try.prog Try.f11.results.toList) (initSt [.agg [.fl .f32 a0_0, .fl .f32 a0_1], .agg [.fl .f32 a1_0, .fl .f32 a1_1], .s (.fl .f32 a2)]) = some (F_laws_FnExactShareOfWay (p_laws_FnExactShareOfWay M a0_0 a0_1 a1_0 a1_1 a2)) := 
  Eq.trans (b := (brT (!p_laws_eqPlace M (c2_laws_FnExactShareOfWay M a0_0 a0_1 a1_0 a1_1 a2).fst (c2_laws_FnExactShareOfWay M a0_0 a0_1 a1_0 a1_1 a2).snd.fst (c3_laws_FnExactShareOfWay M a0_0 a0_1 a1_0 a1_1 a2).fst (c3_laws_FnExactShareOfWay M a0_0 a0_1 a1_0 a1_1 a2).snd.fst) (some (F_laws_FnExactShareOfWay (false))) (brT ((c2_laws_FnExactShareOfWay M a0_0 a0_1 a1_0 a1_1 a2).snd.snd != (c3_laws_FnExactShareOfWay M a0_0 a0_1 a1_0 a1_1 a2).snd.snd) (some (F_laws_FnExactShareOfWay (false))) (some (F_laws_FnExactShareOfWay (true)))))) (by kernel_rfl)
    ((push2 rfl (push2 rfl rfl)))

theorem ok_laws_FnExactShareOfWay : OkFn Try.prog 11 (S_laws_FnExactShareOfWay R) := by
  refine okFn_of_cwp (good_cons ok_laws_toPlace (good_cons ok_laws_eqPlace (good_cons ok_spec_ShareOfWay (good_cons ok_impl_ShareOfWay good_nil)))) follows Try.func11 rfl (by decide) (by decide) ?_
  intro hp args cv deps h
  unfold S_laws_FnExactShareOfWay at h
  split at h
  · cases h
    exact ⟨rfl, (fun d hd => nomatch hd), Nat.le_of_ble_eq_true rfl, _, 40, view_plain rfl, e_laws_FnExactShareOfWay R _ _ _ _ _⟩
  · cases h

end Go.Proofs.Ytmhmedbhngmmpaa
