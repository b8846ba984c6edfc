/- Printed by gen2.py. -/
import Derived.Test.YtggaemodkekeeaaYg

set_option linter.unusedVariables false
set_option linter.unusedSimpArgs false

-- GENERATED BELOW (gen.py)
namespace Go.Proofs.Ytggaemodkekeeaa
open Go Go.Cv Go.Dv
set_option maxRecDepth 100000 in
theorem e_impl_SineTurns (M : FOps) (a0 : Nat) (h : r_impl_SineTurns M a0 = true) : cwp M Try.prog (envOf [(106, S_impl_isFinite M), (99, S_math_NaN M), (100, un64 M.abs), (107, S_impl_sine M)]) (lamOf []) 40 (Try.f97.body.getD .skip) 0 (retK Try.prog Try.f97.results.toList (.cons (.one (.fl .f32)) .nil) 0) (initSt (.cons (.one (.fl .f32)) .nil) (a0, ())) = some (F_impl_SineTurns (p_impl_SineTurns M a0)) := 
  Eq.trans (b := (brT (!p_impl_isFinite M (c0_impl_SineTurns M a0)) (brT (M.narOk (c1_impl_SineTurns M a0)) (some (F_impl_SineTurns (M.nar (c1_impl_SineTurns M a0)))) none) (brT (M.cmp BinOp.geq FloatKind.f64 (M.abs (c0_impl_SineTurns M a0)) 4841369599423283200) (some (F_impl_SineTurns (0))) (brT (M.narOk (c2_impl_SineTurns M a0)) (some (F_impl_SineTurns (M.nar (c2_impl_SineTurns M a0)))) none)))) (by kernel_rfl)
    ((pushR (pushL (fun _ => rfl)) (pushR (fun _ => rfl) (pushL (fun _ => rfl)))) h)
theorem ok_impl_SineTurns : OkFn Try.prog 97 (S_impl_SineTurns R) :=
  okFn_of (good_cons ok_impl_isFinite (good_cons ok_math_NaN (good_cons ok_Abs (good_cons ok_impl_sine good_nil)))) follows Try.func97 rfl (by decide) (by decide) lam_nil (m := 1) (fun _ => rfl) (by decide) (fun _ _ h => nomatch h) (fun _ _ h => nomatch h) (fun x _ => ⟨40, e_impl_SineTurns R x.1 (rr_impl_SineTurns x.1)⟩)

set_option maxRecDepth 100000 in
theorem e_impl_cosine (M : FOps) (a0 : Nat) : cwp M Try.prog (envOf [(97, S_impl_SineTurns M)]) (lamOf []) 40 (Try.f96.body.getD .skip) 0 (retK Try.prog Try.f96.results.toList (.cons (.one (.fl .f32)) .nil) 0) (initSt (.cons (.one (.fl .f32)) .nil) (a0, ())) = some (F_impl_cosine (p_impl_cosine M a0)) := by kernel_rfl
theorem ok_impl_cosine : OkFn Try.prog 96 (S_impl_cosine R) :=
  okFn_of (good_cons ok_impl_SineTurns good_nil) follows Try.func96 rfl (by decide) (by decide) lam_nil (m := 1) (fun _ => rfl) (by decide) (fun _ _ h => nomatch h) (fun _ _ h => nomatch h) (fun x _ => ⟨40, e_impl_cosine R x.1⟩)

set_option maxRecDepth 100000 in
theorem e_spec_l01Sine (M : FOps) (a0 : Nat) (h : r_spec_l01Sine M a0 = true) : cwp M Try.prog (envOf [(85, S_spec_l01Narrow M), (103, S_spec_l01SineWide M)]) (lamOf []) 40 (Try.f84.body.getD .skip) 0 (retK Try.prog Try.f84.results.toList (.cons (.one (.fl .f32)) .nil) 0) (initSt (.cons (.one (.fl .f32)) .nil) (a0, ())) = some (F_spec_l01Sine (p_spec_l01Sine M a0)) := 
  Eq.trans (b := (brT (r_spec_l01Narrow M (c0_spec_l01Sine M a0)) (some (F_spec_l01Sine (p_spec_l01Narrow M (c0_spec_l01Sine M a0)))) none)) (by kernel_rfl)
    ((pushL (fun _ => rfl)) h)
theorem ok_spec_l01Sine : OkFn Try.prog 84 (S_spec_l01Sine R) :=
  okFn_of (good_cons ok_spec_l01Narrow (good_cons ok_spec_l01SineWide good_nil)) follows Try.func84 rfl (by decide) (by decide) lam_nil (m := 1) (fun _ => rfl) (by decide) (fun _ _ h => nomatch h) (fun _ _ h => nomatch h) (fun x _ => ⟨40, e_spec_l01Sine R x.1 (rr_spec_l01Sine x.1)⟩)

set_option maxRecDepth 100000 in
theorem e_spec_l02Cosine (M : FOps) (a0 : Nat) : cwp M Try.prog (envOf [(84, S_spec_l01Sine M)]) (lamOf []) 40 (Try.f83.body.getD .skip) 0 (retK Try.prog Try.f83.results.toList (.cons (.one (.fl .f32)) .nil) 0) (initSt (.cons (.one (.fl .f32)) .nil) (a0, ())) = some (F_spec_l02Cosine (p_spec_l02Cosine M a0)) := by kernel_rfl
theorem ok_spec_l02Cosine : OkFn Try.prog 83 (S_spec_l02Cosine R) :=
  okFn_of (good_cons ok_spec_l01Sine good_nil) follows Try.func83 rfl (by decide) (by decide) lam_nil (m := 1) (fun _ => rfl) (by decide) (fun _ _ h => nomatch h) (fun _ _ h => nomatch h) (fun x _ => ⟨40, e_spec_l02Cosine R x.1⟩)

set_option maxRecDepth 100000 in
theorem e_spec_l01Angle (M : FOps) (a0 : Nat) (a1 : Nat) (h : r_spec_l01Angle M a0 a1 = true) : cwp M Try.prog (envOf [(85, S_spec_l01Narrow M), (86, S_spec_l01AngleWide M)]) (lamOf []) 40 (Try.f66.body.getD .skip) 0 (retK Try.prog Try.f66.results.toList (.cons (.one (.fl .f32)) .nil) 0) (initSt (.cons (.one (.fl .f32)) (.cons (.one (.fl .f32)) .nil)) (a0, (a1, ()))) = some (F_spec_l01Angle (p_spec_l01Angle M a0 a1)) := 
  Eq.trans (b := (brT (r_spec_l01Narrow M (c0_spec_l01Angle M a0 a1)) (some (F_spec_l01Angle (p_spec_l01Narrow M (c0_spec_l01Angle M a0 a1)))) none)) (by kernel_rfl)
    ((pushL (fun _ => rfl)) h)
theorem ok_spec_l01Angle : OkFn Try.prog 66 (S_spec_l01Angle R) :=
  okFn_of (good_cons ok_spec_l01Narrow (good_cons ok_spec_l01AngleWide good_nil)) follows Try.func66 rfl (by decide) (by decide) lam_nil (m := 2) (fun _ => rfl) (by decide) (fun _ _ h => nomatch h) (fun _ _ h => nomatch h) (fun x _ => ⟨40, e_spec_l01Angle R x.1 x.2.1 (rr_spec_l01Angle x.1 x.2.1)⟩)

set_option maxRecDepth 100000 in
theorem e_impl_Place_way (M : FOps) (a0_0 : Nat) (a0_1 : Nat) : cwp M Try.prog (envOf [(97, S_impl_SineTurns M), (96, S_impl_cosine M)]) (lamOf []) 40 (Try.f78.body.getD .skip) 0 (retK Try.prog Try.f78.results.toList (.cons (.agg (.pair (.fl .f32) (.pair (.fl .f32) (.fl .f32)))) .nil) 0) (initSt (.cons (.agg (.pair (.fl .f32) (.fl .f32))) .nil) ((a0_0, a0_1), ())) = some (F_impl_Place_way (p_impl_Place_way M a0_0 a0_1)) := by kernel_rfl
theorem ok_impl_Place_way : OkFn Try.prog 78 (S_impl_Place_way R) :=
  okFn_of (good_cons ok_impl_SineTurns (good_cons ok_impl_cosine good_nil)) follows Try.func78 rfl (by decide) (by decide) lam_nil (m := 1) (fun _ => rfl) (by decide) (fun _ _ h => nomatch h) (fun _ _ h => nomatch h) (fun x _ => ⟨40, e_impl_Place_way R x.1.1 x.1.2⟩)

set_option maxRecDepth 100000 in
theorem e_spec_l02Way (M : FOps) (a0_0 : Nat) (a0_1 : Nat) : cwp M Try.prog (envOf [(83, S_spec_l02Cosine M), (84, S_spec_l01Sine M)]) (lamOf []) 40 (Try.f65.body.getD .skip) 0 (retK Try.prog Try.f65.results.toList (.cons (.agg (.pair (.fl .f32) (.pair (.fl .f32) (.fl .f32)))) .nil) 0) (initSt (.cons (.agg (.pair (.fl .f32) (.fl .f32))) .nil) ((a0_0, a0_1), ())) = some (F_spec_l02Way (p_spec_l02Way M a0_0 a0_1)) := by kernel_rfl
theorem ok_spec_l02Way : OkFn Try.prog 65 (S_spec_l02Way R) :=
  okFn_of (good_cons ok_spec_l02Cosine (good_cons ok_spec_l01Sine good_nil)) follows Try.func65 rfl (by decide) (by decide) lam_nil (m := 1) (fun _ => rfl) (by decide) (fun _ _ h => nomatch h) (fun _ _ h => nomatch h) (fun x _ => ⟨40, e_spec_l02Way R x.1.1 x.1.2⟩)

set_option maxRecDepth 100000 in
theorem e_impl_apart (M : FOps) (a0_0 : Nat) (a0_1 : Nat) (a1_0 : Nat) (a1_1 : Nat) : cwp M Try.prog (envOf [(78, S_impl_Place_way M), (80, S_impl_cross M), (82, S_impl_dotOf M), (79, S_impl_AngleTurns M), (81, S_impl_Way_long M)]) (lamOf []) 40 (Try.f59.body.getD .skip) 0 (retK Try.prog Try.f59.results.toList (.cons (.one (.fl .f32)) .nil) 0) (initSt (.cons (.agg (.pair (.fl .f32) (.fl .f32))) (.cons (.agg (.pair (.fl .f32) (.fl .f32))) .nil)) ((a0_0, a0_1), ((a1_0, a1_1), ()))) = some (F_impl_apart (p_impl_apart M a0_0 a0_1 a1_0 a1_1)) := by kernel_rfl
theorem ok_impl_apart : OkFn Try.prog 59 (S_impl_apart R) :=
  okFn_of (good_cons ok_impl_Place_way (good_cons ok_impl_cross (good_cons ok_impl_dotOf (good_cons ok_impl_AngleTurns (good_cons ok_impl_Way_long good_nil))))) follows Try.func59 rfl (by decide) (by decide) lam_nil (m := 2) (fun _ => rfl) (by decide) (fun _ _ h => nomatch h) (fun _ _ h => nomatch h) (fun x _ => ⟨40, e_impl_apart R x.1.1 x.1.2 x.2.1.1 x.2.1.2⟩)

set_option maxRecDepth 100000 in
theorem e_spec_l02Apart (M : FOps) (a0_0 : Nat) (a0_1 : Nat) (a1_0 : Nat) (a1_1 : Nat) : cwp M Try.prog (envOf [(65, S_spec_l02Way M), (68, S_spec_l02Cross M), (69, S_spec_l02Dot M), (66, S_spec_l01Angle M), (67, S_spec_l02Long M)]) (lamOf []) 40 (Try.f49.body.getD .skip) 0 (retK Try.prog Try.f49.results.toList (.cons (.one (.fl .f32)) .nil) 0) (initSt (.cons (.agg (.pair (.fl .f32) (.fl .f32))) (.cons (.agg (.pair (.fl .f32) (.fl .f32))) .nil)) ((a0_0, a0_1), ((a1_0, a1_1), ()))) = some (F_spec_l02Apart (p_spec_l02Apart M a0_0 a0_1 a1_0 a1_1)) := by kernel_rfl
theorem ok_spec_l02Apart : OkFn Try.prog 49 (S_spec_l02Apart R) :=
  okFn_of (good_cons ok_spec_l02Way (good_cons ok_spec_l02Cross (good_cons ok_spec_l02Dot (good_cons ok_spec_l01Angle (good_cons ok_spec_l02Long good_nil))))) follows Try.func49 rfl (by decide) (by decide) lam_nil (m := 2) (fun _ => rfl) (by decide) (fun _ _ h => nomatch h) (fun _ _ h => nomatch h) (fun x _ => ⟨40, e_spec_l02Apart R x.1.1 x.1.2 x.2.1.1 x.2.1.2⟩)

end Go.Proofs.Ytggaemodkekeeaa
