/- Zp, Zq: merged by merge.py. -/
import Derived.Test.YtbgpobiaaebbeaaGreatWp
import Derived.Test.YtbgpobiaaebbeaaGreatZh
import Derived.Test.YtbgpobiaaebbeaaGreatYm

/- Printed by gen2.py. -/
set_option linter.unusedVariables false
set_option linter.unusedSimpArgs false

-- GENERATED BELOW (gen.py)
namespace Go.Proofs.YtbgpobiaaebbeaaGreat
open Go Go.Cv Go.Dv
set_option maxRecDepth 100000 in
theorem e_laws_toMap (M : FOps) (a0_0 : Int) (a0_1 : Nat) (a0_2 : Nat) (a0_3 : Nat) : cwp M Tryz.prog (envOf [(14, S_laws_toPlace M)]) (lamOf []) 40 (Tryz.f8.body.getD .skip) 0 (retK Tryz.prog Tryz.f8.results.toList (.cons (.agg (.pair (.int .i64) (.pair (.pair (.fl .f32) (.fl .f32)) (.fl .f32)))) .nil) 0) (initSt (.cons (.agg (.pair (.int .i64) (.pair (.pair (.fl .f32) (.fl .f32)) (.fl .f32)))) .nil) ((a0_0, ((a0_1, a0_2), a0_3)), ())) = some (F_laws_toMap (p_laws_toMap M a0_0 a0_1 a0_2 a0_3)) := by kernel_rfl
theorem ok_laws_toMap : OkFn Tryz.prog 8 (S_laws_toMap R) :=
  okFn_of (good_cons ok_laws_toPlace good_nil) follows Tryz.func8 rfl (by decide) (by decide) lam_nil (m := 1) (fun _ => rfl) (by decide) (fun _ _ h => nomatch h) (fun _ _ h => nomatch h) (fun x _ => ⟨40, e_laws_toMap R x.1.1 x.1.2.1.1 x.1.2.1.2 x.1.2.2⟩)

set_option maxRecDepth 100000 in
theorem e_laws_sameComplex (M : FOps) (a0_0 : Nat) (a0_1 : Nat) (a1_0 : Nat) (a1_1 : Nat) : cwp M Tryz.prog (envOf [(20, S_laws_sameFloat M)]) (lamOf []) 40 (Tryz.f34.body.getD .skip) 0 (retK Tryz.prog Tryz.f34.results.toList (.cons (.one .bool) .nil) 0) (initSt (.cons (.one (.cx .f64)) (.cons (.one (.cx .f64)) .nil)) ((a0_0, a0_1), ((a1_0, a1_1), ()))) = some (F_laws_sameComplex (p_laws_sameComplex M a0_0 a0_1 a1_0 a1_1)) := 
  Eq.trans (b := (brT (p_laws_sameFloat M a0_0 a1_0) (some (F_laws_sameComplex (p_laws_sameFloat M a0_1 a1_1))) (some (F_laws_sameComplex (false))))) (by kernel_rfl)
    ((push2 rfl rfl))
theorem ok_laws_sameComplex : OkFn Tryz.prog 34 (S_laws_sameComplex R) :=
  okFn_of (good_cons ok_laws_sameFloat good_nil) follows Tryz.func34 rfl (by decide) (by decide) lam_nil (m := 2) (fun _ => rfl) (by decide) (fun _ _ h => nomatch h) (fun _ _ h => nomatch h) (fun x _ => ⟨40, e_laws_sameComplex R x.1.1 x.1.2 x.2.1.1 x.2.1.2⟩)

set_option maxRecDepth 100000 in
theorem e_spec_l00In (M : FOps) (a0 : Int) (a1 : Int) (a2 : Int) : cwp M Tryz.prog (envOf []) (lamOf []) 40 (Tryz.f50.body.getD .skip) 0 (retK Tryz.prog Tryz.f50.results.toList (.cons (.one .bool) .nil) 0) (initSt (.cons (.one (.int .i64)) (.cons (.one (.int .i64)) (.cons (.one (.int .i64)) .nil))) (a0, (a1, (a2, ())))) = some (F_spec_l00In (p_spec_l00In M a0 a1 a2)) := 
  Eq.trans (b := (brT (decide (a0 ≥ a1)) (some (F_spec_l00In (decide (a0 ≤ a2)))) (some (F_spec_l00In (false))))) (by kernel_rfl)
    ((push2 rfl rfl))
theorem ok_spec_l00In : OkFn Tryz.prog 50 (S_spec_l00In R) :=
  okFn_of good_nil follows Tryz.func50 rfl (by decide) (by decide) lam_nil (m := 3) (fun _ => rfl) (by decide) (fun _ _ h => nomatch h) (fun _ _ h => nomatch h) (fun x _ => ⟨40, e_spec_l00In R x.1 x.2.1 x.2.2.1⟩)

set_option maxRecDepth 100000 in
theorem e_spec_l03Is (M : FOps) (a0_0 : Int) (a0_1 : Nat) (a0_2 : Nat) (a0_3 : Nat) : cwp M Tryz.prog (envOf [(35, S_spec_l02Is M), (50, S_spec_l00In M)]) (lamOf []) 40 (Tryz.f26.body.getD .skip) 0 (retK Tryz.prog Tryz.f26.results.toList (.cons (.one .bool) .nil) 0) (initSt (.cons (.ptr (.pair (.int .i64) (.pair (.pair (.fl .f32) (.fl .f32)) (.fl .f32)))) .nil) ((a0_0, ((a0_1, a0_2), a0_3)), ())) = some (F_spec_l03Is (p_spec_l03Is M a0_0 a0_1 a0_2 a0_3)) := 
  Eq.trans (b := (brT (p_spec_l00In M a0_0 0 6) (brT (p_spec_l02Is M a0_1 a0_2) (brT (M.cmp BinOp.geq FloatKind.f32 a0_3 3195388559) (some (F_spec_l03Is (M.cmp BinOp.leq FloatKind.f32 a0_3 1047904911))) (some (F_spec_l03Is (false)))) (some (F_spec_l03Is (false)))) (some (F_spec_l03Is (false))))) (by kernel_rfl)
    ((push2 (push2 (push2 rfl rfl) rfl) rfl))
theorem ok_spec_l03Is : OkFn Tryz.prog 26 (S_spec_l03Is R) :=
  okFn_of (good_cons ok_spec_l02Is (good_cons ok_spec_l00In good_nil)) follows Tryz.func26 rfl (by decide) (by decide) lam_nil (m := 1) (fun _ => rfl) (by decide) (fun _ _ h => nomatch h) (fun _ _ h => nomatch h) (fun x _ => ⟨40, e_spec_l03Is R x.1.1 x.1.2.1.1 x.1.2.1.2 x.1.2.2⟩)

set_option maxRecDepth 100000 in
theorem e_impl_ValidMap (M : FOps) (a0_0 : Int) (a0_1 : Nat) (a0_2 : Nat) (a0_3 : Nat) : cwp M Tryz.prog (envOf [(57, S_impl_ValidPlace M), (54, S_impl_inside M), (55, S_impl_within M)]) (lamOf []) 40 (Tryz.f46.body.getD .skip) 0 (retK Tryz.prog Tryz.f46.results.toList (.cons (.one .bool) .nil) 0) (initSt (.cons (.agg (.pair (.int .i64) (.pair (.pair (.fl .f32) (.fl .f32)) (.fl .f32)))) .nil) ((a0_0, ((a0_1, a0_2), a0_3)), ())) = some (F_impl_ValidMap (p_impl_ValidMap M a0_0 a0_1 a0_2 a0_3)) := 
  Eq.trans (b := (brT (p_impl_within M a0_0 0 6) (brT (p_impl_ValidPlace M a0_1 a0_2) (some (F_impl_ValidMap (p_impl_inside M a0_3 3195388559 1047904911))) (some (F_impl_ValidMap (false)))) (some (F_impl_ValidMap (false))))) (by kernel_rfl)
    ((push2 (push2 rfl rfl) rfl))
theorem ok_impl_ValidMap : OkFn Tryz.prog 46 (S_impl_ValidMap R) :=
  okFn_of (good_cons ok_impl_ValidPlace (good_cons ok_impl_inside (good_cons ok_impl_within good_nil))) follows Tryz.func46 rfl (by decide) (by decide) lam_nil (m := 1) (fun _ => rfl) (by decide) (fun _ _ h => nomatch h) (fun _ _ h => nomatch h) (fun x _ => ⟨40, e_impl_ValidMap R x.1.1 x.1.2.1.1 x.1.2.1.2 x.1.2.2⟩)

set_option maxRecDepth 100000 in
theorem e_spec_l03Round (M : FOps) (a0 : Nat) : cwp M Tryz.prog (envOf []) (lamOf []) 40 (Tryz.f81.body.getD .skip) 0 (retK Tryz.prog Tryz.f81.results.toList (.cons (.one (.fl .f32)) .nil) 0) (initSt (.cons (.one (.fl .f32)) .nil) (a0, ())) = some (F_spec_l03Round (p_spec_l03Round M a0)) := by kernel_rfl
theorem ok_spec_l03Round : OkFn Tryz.prog 81 (S_spec_l03Round R) :=
  okFn_of good_nil follows Tryz.func81 rfl (by decide) (by decide) lam_nil (m := 1) (fun _ => rfl) (by decide) (fun _ _ h => nomatch h) (fun _ _ h => nomatch h) (fun x _ => ⟨40, e_spec_l03Round R x.1⟩)

set_option maxRecDepth 100000 in
theorem e_spec_l01CFinite (M : FOps) (a0_0 : Nat) (a0_1 : Nat) : cwp M Tryz.prog (envOf [(60, S_spec_l01Finite M)]) (lamOf []) 40 (Tryz.f109.body.getD .skip) 0 (retK Tryz.prog Tryz.f109.results.toList (.cons (.one .bool) .nil) 0) (initSt (.cons (.one (.cx .f32)) .nil) ((a0_0, a0_1), ())) = some (F_spec_l01CFinite (p_spec_l01CFinite M a0_0 a0_1)) := 
  Eq.trans (b := (brT (p_spec_l01Finite M a0_0) (some (F_spec_l01CFinite (p_spec_l01Finite M a0_1))) (some (F_spec_l01CFinite (false))))) (by kernel_rfl)
    ((push2 rfl rfl))
theorem ok_spec_l01CFinite : OkFn Tryz.prog 109 (S_spec_l01CFinite R) :=
  okFn_of (good_cons ok_spec_l01Finite good_nil) follows Tryz.func109 rfl (by decide) (by decide) lam_nil (m := 1) (fun _ => rfl) (by decide) (fun _ _ h => nomatch h) (fun _ _ h => nomatch h) (fun x _ => ⟨40, e_spec_l01CFinite R x.1.1 x.1.2⟩)

set_option maxRecDepth 100000 in
theorem e_spec_l03Number (M : FOps) (a0_0 : Nat) (a0_1 : Nat) : cwp M Tryz.prog (envOf [(109, S_spec_l01CFinite M)]) (lamOf []) 40 (Tryz.f80.body.getD .skip) 0 (retK Tryz.prog Tryz.f80.results.toList (.cons (.one (.cx .f32)) (.cons (.one .bool) .nil)) 0) (initSt (.cons (.one (.cx .f32)) .nil) ((a0_0, a0_1), ())) = some (F_spec_l03Number (p_spec_l03Number M a0_0 a0_1)) := 
  Eq.trans (b := (brT (!p_spec_l01CFinite M a0_0 a0_1) (some (F_spec_l03Number ((0, 0, false)))) (some (F_spec_l03Number ((a0_0, a0_1, true)))))) (by kernel_rfl)
    ((push2 rfl rfl))
theorem ok_spec_l03Number : OkFn Tryz.prog 80 (S_spec_l03Number R) :=
  okFn_of (good_cons ok_spec_l01CFinite good_nil) follows Tryz.func80 rfl (by decide) (by decide) lam_nil (m := 1) (fun _ => rfl) (by decide) (fun _ _ h => nomatch h) (fun _ _ h => nomatch h) (fun x _ => ⟨40, e_spec_l03Number R x.1.1 x.1.2⟩)

set_option maxRecDepth 100000 in
theorem e_impl_IsFiniteComplex (M : FOps) (a0_0 : Nat) (a0_1 : Nat) : cwp M Tryz.prog (envOf [(63, S_impl_IsFinite M)]) (lamOf []) 40 (Tryz.f163.body.getD .skip) 0 (retK Tryz.prog Tryz.f163.results.toList (.cons (.one .bool) .nil) 0) (initSt (.cons (.one (.cx .f32)) .nil) ((a0_0, a0_1), ())) = some (F_impl_IsFiniteComplex (p_impl_IsFiniteComplex M a0_0 a0_1)) := 
  Eq.trans (b := (brT (p_impl_IsFinite M a0_0) (some (F_impl_IsFiniteComplex (p_impl_IsFinite M a0_1))) (some (F_impl_IsFiniteComplex (false))))) (by kernel_rfl)
    ((push2 rfl rfl))
theorem ok_impl_IsFiniteComplex : OkFn Tryz.prog 163 (S_impl_IsFiniteComplex R) :=
  okFn_of (good_cons ok_impl_IsFinite good_nil) follows Tryz.func163 rfl (by decide) (by decide) lam_nil (m := 1) (fun _ => rfl) (by decide) (fun _ _ h => nomatch h) (fun _ _ h => nomatch h) (fun x _ => ⟨40, e_impl_IsFiniteComplex R x.1.1 x.1.2⟩)

set_option maxRecDepth 100000 in
theorem e_impl_finitePoint (M : FOps) (a0_0 : Nat) (a0_1 : Nat) (a1 : Bool) : cwp M Tryz.prog (envOf [(163, S_impl_IsFiniteComplex M)]) (lamOf []) 40 (Tryz.f139.body.getD .skip) 0 (retK Tryz.prog Tryz.f139.results.toList (.cons (.one (.cx .f32)) (.cons (.one .bool) .nil)) 0) (initSt (.cons (.one (.cx .f32)) (.cons (.one .bool) .nil)) ((a0_0, a0_1), (a1, ()))) = some (F_impl_finitePoint (p_impl_finitePoint M a0_0 a0_1 a1)) := 
  Eq.trans (b := (brT (!a1) (some (F_impl_finitePoint ((0, 0, false)))) (brT (!p_impl_IsFiniteComplex M a0_0 a0_1) (some (F_impl_finitePoint ((0, 0, false)))) (some (F_impl_finitePoint ((a0_0, a0_1, true))))))) (by kernel_rfl)
    ((push2 rfl (push2 rfl rfl)))
theorem ok_impl_finitePoint : OkFn Tryz.prog 139 (S_impl_finitePoint R) :=
  okFn_of (good_cons ok_impl_IsFiniteComplex good_nil) follows Tryz.func139 rfl (by decide) (by decide) lam_nil (m := 2) (fun _ => rfl) (by decide) (fun _ _ h => nomatch h) (fun _ _ h => nomatch h) (fun x _ => ⟨40, e_impl_finitePoint R x.1.1 x.1.2 x.2.1⟩)

set_option maxRecDepth 100000 in
theorem e_spec_l01Scale (M : FOps) (a0_0 : Nat) (a0_1 : Nat) (a1 : Nat) : cwp M Tryz.prog (envOf []) (lamOf []) 40 (Tryz.f69.body.getD .skip) 0 (retK Tryz.prog Tryz.f69.results.toList (.cons (.one (.cx .f32)) .nil) 0) (initSt (.cons (.one (.cx .f32)) (.cons (.one (.fl .f32)) .nil)) ((a0_0, a0_1), (a1, ()))) = some (F_spec_l01Scale (p_spec_l01Scale M a0_0 a0_1 a1)) := by kernel_rfl
theorem ok_spec_l01Scale : OkFn Tryz.prog 69 (S_spec_l01Scale R) :=
  okFn_of good_nil follows Tryz.func69 rfl (by decide) (by decide) lam_nil (m := 2) (fun _ => rfl) (by decide) (fun _ _ h => nomatch h) (fun _ _ h => nomatch h) (fun x _ => ⟨40, e_spec_l01Scale R x.1.1 x.1.2 x.2.1⟩)

set_option maxRecDepth 100000 in
theorem e_impl_ScaleComplex (M : FOps) (a0_0 : Nat) (a0_1 : Nat) (a1 : Nat) : cwp M Tryz.prog (envOf []) (lamOf []) 40 (Tryz.f120.body.getD .skip) 0 (retK Tryz.prog Tryz.f120.results.toList (.cons (.one (.cx .f32)) .nil) 0) (initSt (.cons (.one (.cx .f32)) (.cons (.one (.fl .f32)) .nil)) ((a0_0, a0_1), (a1, ()))) = some (F_impl_ScaleComplex (p_impl_ScaleComplex M a0_0 a0_1 a1)) := by kernel_rfl
theorem ok_impl_ScaleComplex : OkFn Tryz.prog 120 (S_impl_ScaleComplex R) :=
  okFn_of good_nil follows Tryz.func120 rfl (by decide) (by decide) lam_nil (m := 2) (fun _ => rfl) (by decide) (fun _ _ h => nomatch h) (fun _ _ h => nomatch h) (fun x _ => ⟨40, e_impl_ScaleComplex R x.1.1 x.1.2 x.2.1⟩)

set_option maxRecDepth 100000 in
theorem e_impl_ApartOf (M : FOps) (a0_0 : Nat) (a0_1 : Nat) (a1_0 : Nat) (a1_1 : Nat) : cwp M Tryz.prog (envOf [(52, S_impl_finite M), (66, S_impl_apart M), (62, S_impl_areValid M)]) (lamOf []) 40 (Tryz.f141.body.getD .skip) 0 (retK Tryz.prog Tryz.f141.results.toList (.cons (.one (.fl .f32)) (.cons (.one .bool) .nil)) 0) (initSt (.cons (.agg (.pair (.fl .f32) (.fl .f32))) (.cons (.agg (.pair (.fl .f32) (.fl .f32))) .nil)) ((a0_0, a0_1), ((a1_0, a1_1), ()))) = some (F_impl_ApartOf (p_impl_ApartOf M a0_0 a0_1 a1_0 a1_1)) := by kernel_rfl
theorem ok_impl_ApartOf : OkFn Tryz.prog 141 (S_impl_ApartOf R) :=
  okFn_of (good_cons ok_impl_finite (good_cons ok_impl_apart (good_cons ok_impl_areValid good_nil))) follows Tryz.func141 rfl (by decide) (by decide) lam_nil (m := 2) (fun _ => rfl) (by decide) (fun _ _ h => nomatch h) (fun _ _ h => nomatch h) (fun x _ => ⟨40, e_impl_ApartOf R x.1.1 x.1.2 x.2.1.1 x.2.1.2⟩)

set_option maxRecDepth 100000 in
theorem e_impl_CourseTo (M : FOps) (a0_0 : Nat) (a0_1 : Nat) (a1_0 : Nat) (a1_1 : Nat) : cwp M Tryz.prog (envOf [(52, S_impl_finite M), (62, S_impl_areValid M), (65, S_impl_course M)]) (lamOf []) 40 (Tryz.f142.body.getD .skip) 0 (retK Tryz.prog Tryz.f142.results.toList (.cons (.one (.fl .f32)) (.cons (.one .bool) .nil)) 0) (initSt (.cons (.agg (.pair (.fl .f32) (.fl .f32))) (.cons (.agg (.pair (.fl .f32) (.fl .f32))) .nil)) ((a0_0, a0_1), ((a1_0, a1_1), ()))) = some (F_impl_CourseTo (p_impl_CourseTo M a0_0 a0_1 a1_0 a1_1)) := by kernel_rfl
theorem ok_impl_CourseTo : OkFn Tryz.prog 142 (S_impl_CourseTo R) :=
  okFn_of (good_cons ok_impl_finite (good_cons ok_impl_areValid (good_cons ok_impl_course good_nil))) follows Tryz.func142 rfl (by decide) (by decide) lam_nil (m := 2) (fun _ => rfl) (by decide) (fun _ _ h => nomatch h) (fun _ _ h => nomatch h) (fun x _ => ⟨40, e_impl_CourseTo R x.1.1 x.1.2 x.2.1.1 x.2.1.2⟩)

set_option maxRecDepth 100000 in
theorem e_spec_l01From (M : FOps) (a0 : Int) (h : r_spec_l01From M a0 = true) : cwp M Tryz.prog (envOf [(162, S_math_Float32frombits M)]) (lamOf []) 40 (Tryz.f138.body.getD .skip) 0 (retK Tryz.prog Tryz.f138.results.toList (.cons (.one (.fl .f32)) .nil) 0) (initSt (.cons (.one (.int .i64)) .nil) (a0, ())) = some (F_spec_l01From (p_spec_l01From M a0)) := 
  Eq.trans (b := (brT (decide (0 ≤ IntKind.u32.wrap a0) && decide (IntKind.u32.wrap a0 < 4294967296)) (some (F_spec_l01From (p_math_Float32frombits M (IntKind.u32.wrap a0)))) none)) (by kernel_rfl)
    ((pushL (fun _ => rfl)) h)
theorem ok_spec_l01From : OkFn Tryz.prog 138 (S_spec_l01From R) :=
  okFn_of (good_cons ok_math_Float32frombits good_nil) follows Tryz.func138 rfl (by decide) (by decide) lam_nil (m := 1) (fun _ => rfl) (by decide) (fun _ _ h => nomatch h) (fun _ _ h => nomatch h) (fun x hx => ⟨40, e_spec_l01From R x.1 hx⟩)

set_option maxRecDepth 100000 in
theorem hs_spec_l01Phasor_0 (M : FOps) (v0 : Nat) (v1 : Int) (v2 : Nat) (v3 : Nat) : cwp M Tryz.prog (envOf [(113, S_spec_l01Narrow M), (132, S_spec_l01SineWide M), (138, S_spec_l01From M)]) (lamOf []) 40 ((loopsOf (Tryz.f86.body.getD .skip)).getD 0 .skip) 1 (stepK (.cons (.tv 3 false (.fl .f64)) (.cons (.tv 4 false (.int .i64)) (.cons (.tv 2 false (.cx .f32)) .nil))) [((.exit 0), (.cons (.tv 3 false (.fl .f64)) (.cons (.tv 4 false (.int .i64)) (.cons (.tv 2 false (.cx .f32)) .nil))))]) (canon (.cons (.tv 3 false (.fl .f64)) (.cons (.tv 4 false (.int .i64)) (.cons (.tv 2 false (.cx .f32)) .nil))) 0 0 (v0, (v1, ((v2, v3), ())))) = st_spec_l01Phasor_0 M v0 v1 v2 v3 := by
  unfold st_spec_l01Phasor_0
  kernel_rfl
set_option maxRecDepth 100000 in
theorem lk_spec_l01Phasor_0 : LOk Tryz.prog Tryz.f86.ntmps ((loopsOf (Tryz.f86.body.getD .skip)).getD 0 .skip) (L_spec_l01Phasor_0 R) :=
  lok (F := 40) (Λ := lamOf []) (b := 1) (good_cons ok_spec_l01Narrow (good_cons ok_spec_l01SineWide (good_cons ok_spec_l01From good_nil))) follows (by kernel_rfl) (fun _ _ _ _ h => nomatch h) (by decide) (by decide) (by decide) (fun x => hs_spec_l01Phasor_0 R x.1 x.2.1 x.2.2.1.1 x.2.2.1.2)
set_option maxRecDepth 100000 in
theorem e_spec_l01Phasor (M : FOps) (a0 : Nat) (h : r_spec_l01Phasor M a0 = true) : cwp M Tryz.prog (envOf [(113, S_spec_l01Narrow M), (132, S_spec_l01SineWide M), (138, S_spec_l01From M)]) (lamOf [(0, L_spec_l01Phasor_0 M)]) 40 (Tryz.f86.body.getD .skip) 0 (retK Tryz.prog Tryz.f86.results.toList (.cons (.one (.cx .f32)) .nil) 0) (initSt (.cons (.one (.fl .f64)) .nil) (a0, ())) = some (F_spec_l01Phasor (p_spec_l01Phasor M a0)) := 
  Eq.trans (b := (brT (M.cmp BinOp.neq FloatKind.f64 (M.bin BinOp.sub FloatKind.f64 a0 a0) 0) (brT (r_spec_l01From M 2143289344) (brT (r_spec_l01From M 2143289344) (some (F_spec_l01Phasor (((c0_spec_l01Phasor M a0), (c0_spec_l01Phasor M a0))))) none) none) (brT (M.cmp BinOp.geq FloatKind.f64 a0 4841369599423283200) (some (F_spec_l01Phasor ((1065353216, 0)))) (brT (M.cmp BinOp.leq FloatKind.f64 a0 14064741636278059008) (some (F_spec_l01Phasor ((1065353216, 0)))) (brT (M.toiOk FloatKind.f64 a0 IntKind.i64) (brT (M.cmp BinOp.lss FloatKind.f64 (c1_spec_l01Phasor M a0) 0) (brT ((c2_spec_l01Phasor M a0).isSome) (brT (((c2_spec_l01Phasor M a0).getD (0, 0, (0, 0), ())).snd.fst == 1) (brT (r_spec_l01Narrow M (c4_spec_l01Phasor M a0)) (brT (r_spec_l01Narrow M (c5_spec_l01Phasor M a0)) (some (F_spec_l01Phasor (((c6_spec_l01Phasor M a0), (c7_spec_l01Phasor M a0))))) none) none) (brT (((c2_spec_l01Phasor M a0).getD (0, 0, (0, 0), ())).snd.fst == 2) (brT (r_spec_l01Narrow M (c8_spec_l01Phasor M a0)) (brT (r_spec_l01Narrow M (c4_spec_l01Phasor M a0)) (some (F_spec_l01Phasor (((c9_spec_l01Phasor M a0), (c6_spec_l01Phasor M a0))))) none) none) (brT (((c2_spec_l01Phasor M a0).getD (0, 0, (0, 0), ())).snd.fst == 3) (brT (r_spec_l01Narrow M (c3_spec_l01Phasor M a0)) (brT (r_spec_l01Narrow M (c8_spec_l01Phasor M a0)) (some (F_spec_l01Phasor (((c10_spec_l01Phasor M a0), (c9_spec_l01Phasor M a0))))) none) none) (brT (r_spec_l01Narrow M (c5_spec_l01Phasor M a0)) (brT (r_spec_l01Narrow M (c3_spec_l01Phasor M a0)) (some (F_spec_l01Phasor (((c7_spec_l01Phasor M a0), (c10_spec_l01Phasor M a0))))) none) none)))) none) (brT ((c11_spec_l01Phasor M a0).isSome) (brT (((c11_spec_l01Phasor M a0).getD (0, 0, (0, 0), ())).snd.fst == 1) (brT (r_spec_l01Narrow M (c13_spec_l01Phasor M a0)) (brT (r_spec_l01Narrow M (c14_spec_l01Phasor M a0)) (some (F_spec_l01Phasor (((c15_spec_l01Phasor M a0), (c16_spec_l01Phasor M a0))))) none) none) (brT (((c11_spec_l01Phasor M a0).getD (0, 0, (0, 0), ())).snd.fst == 2) (brT (r_spec_l01Narrow M (c17_spec_l01Phasor M a0)) (brT (r_spec_l01Narrow M (c13_spec_l01Phasor M a0)) (some (F_spec_l01Phasor (((c18_spec_l01Phasor M a0), (c15_spec_l01Phasor M a0))))) none) none) (brT (((c11_spec_l01Phasor M a0).getD (0, 0, (0, 0), ())).snd.fst == 3) (brT (r_spec_l01Narrow M (c12_spec_l01Phasor M a0)) (brT (r_spec_l01Narrow M (c17_spec_l01Phasor M a0)) (some (F_spec_l01Phasor (((c19_spec_l01Phasor M a0), (c18_spec_l01Phasor M a0))))) none) none) (brT (r_spec_l01Narrow M (c14_spec_l01Phasor M a0)) (brT (r_spec_l01Narrow M (c12_spec_l01Phasor M a0)) (some (F_spec_l01Phasor (((c16_spec_l01Phasor M a0), (c19_spec_l01Phasor M a0))))) none) none)))) none)) none))))) (by kernel_rfl)
    ((pushR (pushL (pushL (fun _ => rfl))) (pushR (fun _ => rfl) (pushR (fun _ => rfl) (pushL (pushR (pushL (pushR (pushL (pushL (fun _ => rfl))) (pushR (pushL (pushL (fun _ => rfl))) (pushR (pushL (pushL (fun _ => rfl))) (pushL (pushL (fun _ => rfl))))))) (pushL (pushR (pushL (pushL (fun _ => rfl))) (pushR (pushL (pushL (fun _ => rfl))) (pushR (pushL (pushL (fun _ => rfl))) (pushL (pushL (fun _ => rfl)))))))))))) h)
theorem ok_spec_l01Phasor : OkFn Tryz.prog 86 (S_spec_l01Phasor R) :=
  okFn_of (good_cons ok_spec_l01Narrow (good_cons ok_spec_l01SineWide (good_cons ok_spec_l01From good_nil))) follows Tryz.func86 rfl (by decide) (by decide) (lam_cons (i := 0) (cc := (loopsOf (Tryz.f86.body.getD .skip)).getD 0 .skip) (by kernel_rfl) lk_spec_l01Phasor_0 lam_nil) (m := 1) (fun _ => rfl) (by decide) (fun _ _ h => nomatch h) (fun _ _ h => nomatch h) (fun x hx => ⟨40, e_spec_l01Phasor R x.1 hx⟩)

set_option maxRecDepth 100000 in
theorem hs_impl_PhasorOf_0 (M : FOps) (v0 : Nat) (v1 : Int) (v2 : Nat) (v3 : Nat) : cwp M Tryz.prog (envOf [(96, S_impl_isFinite M), (128, S_math_NaN M), (150, un64 M.abs), (151, S_impl_sine M), (166, S_impl_fraction M)]) (lamOf []) 40 ((loopsOf (Tryz.f144.body.getD .skip)).getD 0 .skip) 1 (stepK (.cons (.tv 4 false (.fl .f64)) (.cons (.tv 5 false (.int .i64)) (.cons (.tv 2 false (.cx .f32)) .nil))) [((.exit 0), (.cons (.tv 4 false (.fl .f64)) (.cons (.tv 5 false (.int .i64)) (.cons (.tv 2 false (.cx .f32)) .nil))))]) (canon (.cons (.tv 4 false (.fl .f64)) (.cons (.tv 5 false (.int .i64)) (.cons (.tv 2 false (.cx .f32)) .nil))) 0 0 (v0, (v1, ((v2, v3), ())))) = st_impl_PhasorOf_0 M v0 v1 v2 v3 := by
  unfold st_impl_PhasorOf_0
  kernel_rfl
set_option maxRecDepth 100000 in
theorem lk_impl_PhasorOf_0 : LOk Tryz.prog Tryz.f144.ntmps ((loopsOf (Tryz.f144.body.getD .skip)).getD 0 .skip) (L_impl_PhasorOf_0 R) :=
  lok (F := 40) (Λ := lamOf []) (b := 1) (good_cons ok_impl_isFinite (good_cons ok_math_NaN (good_cons ok_Abs (good_cons ok_impl_sine (good_cons ok_impl_fraction good_nil))))) follows (by kernel_rfl) (fun _ _ _ _ h => nomatch h) (by decide) (by decide) (by decide) (fun x => hs_impl_PhasorOf_0 R x.1 x.2.1 x.2.2.1.1 x.2.2.1.2)
set_option maxRecDepth 100000 in
theorem e_impl_PhasorOf (M : FOps) (a0 : Nat) (h : r_impl_PhasorOf M a0 = true) : cwp M Tryz.prog (envOf [(96, S_impl_isFinite M), (128, S_math_NaN M), (150, un64 M.abs), (151, S_impl_sine M), (166, S_impl_fraction M)]) (lamOf [(0, L_impl_PhasorOf_0 M)]) 40 (Tryz.f144.body.getD .skip) 0 (retK Tryz.prog Tryz.f144.results.toList (.cons (.one (.cx .f32)) .nil) 0) (initSt (.cons (.one (.fl .f64)) .nil) (a0, ())) = some (F_impl_PhasorOf (p_impl_PhasorOf M a0)) := 
  Eq.trans (b := (brT (!p_impl_isFinite M a0) (brT (M.narOk (c0_impl_PhasorOf M a0)) (some (F_impl_PhasorOf (((c1_impl_PhasorOf M a0), (c1_impl_PhasorOf M a0))))) none) (brT (M.cmp BinOp.geq FloatKind.f64 (M.abs a0) 4841369599423283200) (some (F_impl_PhasorOf ((1065353216, 0)))) (brT ((c2_impl_PhasorOf M a0).isSome) (brT (((c2_impl_PhasorOf M a0).getD (0, 0, (0, 0), ())).snd.fst == 1) (brT ((c5_impl_PhasorOf M a0)) (brT ((c7_impl_PhasorOf M a0)) (some (F_impl_PhasorOf (((c8_impl_PhasorOf M a0), (c9_impl_PhasorOf M a0))))) none) none) (brT (((c2_impl_PhasorOf M a0).getD (0, 0, (0, 0), ())).snd.fst == 2) (brT ((c11_impl_PhasorOf M a0)) (brT ((c5_impl_PhasorOf M a0)) (some (F_impl_PhasorOf (((c12_impl_PhasorOf M a0), (c8_impl_PhasorOf M a0))))) none) none) (brT (((c2_impl_PhasorOf M a0).getD (0, 0, (0, 0), ())).snd.fst == 3) (brT ((c13_impl_PhasorOf M a0)) (brT ((c11_impl_PhasorOf M a0)) (some (F_impl_PhasorOf (((c14_impl_PhasorOf M a0), (c12_impl_PhasorOf M a0))))) none) none) (brT ((c7_impl_PhasorOf M a0)) (brT ((c13_impl_PhasorOf M a0)) (some (F_impl_PhasorOf (((c9_impl_PhasorOf M a0), (c14_impl_PhasorOf M a0))))) none) none)))) none)))) (by kernel_rfl)
    ((pushR (pushL (fun _ => rfl)) (pushR (fun _ => rfl) (pushL (pushR (pushL (pushL (fun _ => rfl))) (pushR (pushL (pushL (fun _ => rfl))) (pushR (pushL (pushL (fun _ => rfl))) (pushL (pushL (fun _ => rfl))))))))) h)
theorem ok_impl_PhasorOf : OkFn Tryz.prog 144 (S_impl_PhasorOf R) :=
  okFn_of (good_cons ok_impl_isFinite (good_cons ok_math_NaN (good_cons ok_Abs (good_cons ok_impl_sine (good_cons ok_impl_fraction good_nil))))) follows Tryz.func144 rfl (by decide) (by decide) (lam_cons (i := 0) (cc := (loopsOf (Tryz.f144.body.getD .skip)).getD 0 .skip) (by kernel_rfl) lk_impl_PhasorOf_0 lam_nil) (m := 1) (fun _ => rfl) (by decide) (fun _ _ h => nomatch h) (fun _ _ h => nomatch h) (fun x hx => ⟨40, e_impl_PhasorOf R x.1 hx⟩)

set_option maxRecDepth 100000 in
theorem e_impl_Map_ring (M : FOps) (a0_0 : Int) (a0_1 : Nat) (a0_2 : Nat) (a0_3 : Nat) (a1 : Nat) : cwp M Tryz.prog (envOf [(99, S_impl_cosine M), (98, S_impl_SineTurns M)]) (lamOf []) 40 (Tryz.f143.body.getD .skip) 0 (retK Tryz.prog Tryz.f143.results.toList (.cons (.one (.fl .f32)) (.cons (.one .bool) .nil)) 0) (initSt (.cons (.agg (.pair (.int .i64) (.pair (.pair (.fl .f32) (.fl .f32)) (.fl .f32)))) (.cons (.one (.fl .f32)) .nil)) ((a0_0, ((a0_1, a0_2), a0_3)), (a1, ()))) = some (F_impl_Map_ring (p_impl_Map_ring M a0_0 a0_1 a0_2 a0_3 a1)) := 
  Eq.trans (b := (brT (a0_0 == 4) (some (F_impl_Map_ring ((M.bin BinOp.mul FloatKind.f32 1073741824 (M.bin BinOp.quo FloatKind.f32 (c1_impl_Map_ring M a0_0 a0_1 a0_2 a0_3 a1) (p_impl_cosine M (c0_impl_Map_ring M a0_0 a0_1 a0_2 a0_3 a1))), M.cmp BinOp.leq FloatKind.f32 a1 1055286886)))) (brT (a0_0 == 5) (some (F_impl_Map_ring ((M.bin BinOp.mul FloatKind.f32 1073741824 (c1_impl_Map_ring M a0_0 a0_1 a0_2 a0_3 a1), true)))) (some (F_impl_Map_ring ((M.bin BinOp.mul FloatKind.f32 1086918619 a1, true))))))) (by kernel_rfl)
    ((push2 rfl (push2 rfl rfl)))
theorem ok_impl_Map_ring : OkFn Tryz.prog 143 (S_impl_Map_ring R) :=
  okFn_of (good_cons ok_impl_cosine (good_cons ok_impl_SineTurns good_nil)) follows Tryz.func143 rfl (by decide) (by decide) lam_nil (m := 2) (fun _ => rfl) (by decide) (fun _ _ h => nomatch h) (fun _ _ h => nomatch h) (fun x _ => ⟨40, e_impl_Map_ring R x.1.1 x.1.2.1.1 x.1.2.1.2 x.1.2.2 x.2.1⟩)

set_option maxRecDepth 100000 in
theorem e_spec_l03Point (M : FOps) (a0_0 : Int) (a0_1 : Nat) (a0_2 : Nat) (a0_3 : Nat) (a1_0 : Nat) (a1_1 : Nat) (h : r_spec_l03Point M a0_0 a0_1 a0_2 a0_3 a1_0 a1_1 = true) : cwp M Tryz.prog (envOf [(80, S_spec_l03Number M), (49, S_spec_l02Wrap M), (79, S_spec_l02Cosine M), (81, S_spec_l03Round M), (82, S_spec_l02Stretch M), (83, S_spec_l01Sine M), (84, S_spec_l02Apart M), (85, S_spec_l02Course M), (69, S_spec_l01Scale M), (86, S_spec_l01Phasor M)]) (lamOf []) 40 (Tryz.f51.body.getD .skip) 0 (retK Tryz.prog Tryz.f51.results.toList (.cons (.one (.cx .f32)) (.cons (.one .bool) .nil)) 0) (initSt (.cons (.ptr (.pair (.int .i64) (.pair (.pair (.fl .f32) (.fl .f32)) (.fl .f32)))) (.cons (.agg (.pair (.fl .f32) (.fl .f32))) .nil)) ((a0_0, ((a0_1, a0_2), a0_3)), ((a1_0, a1_1), ()))) = some (F_spec_l03Point (p_spec_l03Point M a0_0 a0_1 a0_2 a0_3 a1_0 a1_1)) := 
  Eq.trans (b := (brT (a0_0 == 0) (some (F_spec_l03Point (((c3_spec_l03Point M a0_0 a0_1 a0_2 a0_3 a1_0 a1_1).fst, (c3_spec_l03Point M a0_0 a0_1 a0_2 a0_3 a1_0 a1_1).snd.fst, (c3_spec_l03Point M a0_0 a0_1 a0_2 a0_3 a1_0 a1_1).snd.snd)))) (brT (a0_0 == 1) (brT (r_spec_l02Stretch M a1_0) (brT (!(c4_spec_l03Point M a0_0 a0_1 a0_2 a0_3 a1_0 a1_1).snd) (some (F_spec_l03Point ((0, 0, false)))) (some (F_spec_l03Point (((c5_spec_l03Point M a0_0 a0_1 a0_2 a0_3 a1_0 a1_1).fst, (c5_spec_l03Point M a0_0 a0_1 a0_2 a0_3 a1_0 a1_1).snd.fst, (c5_spec_l03Point M a0_0 a0_1 a0_2 a0_3 a1_0 a1_1).snd.snd))))) none) (brT (a0_0 == 2) (some (F_spec_l03Point (((c6_spec_l03Point M a0_0 a0_1 a0_2 a0_3 a1_0 a1_1).fst, (c6_spec_l03Point M a0_0 a0_1 a0_2 a0_3 a1_0 a1_1).snd.fst, (c6_spec_l03Point M a0_0 a0_1 a0_2 a0_3 a1_0 a1_1).snd.snd)))) (brT (a0_0 == 3) (some (F_spec_l03Point (((c7_spec_l03Point M a0_0 a0_1 a0_2 a0_3 a1_0 a1_1).fst, (c7_spec_l03Point M a0_0 a0_1 a0_2 a0_3 a1_0 a1_1).snd.fst, (c7_spec_l03Point M a0_0 a0_1 a0_2 a0_3 a1_0 a1_1).snd.snd)))) (brT (a0_0 == 4) (brT (!M.cmp BinOp.leq FloatKind.f32 (c8_spec_l03Point M a0_0 a0_1 a0_2 a0_3 a1_0 a1_1) 1055286886) (some (F_spec_l03Point ((0, 0, false)))) (brT (r_spec_l01Phasor M (c9_spec_l03Point M a0_0 a0_1 a0_2 a0_3 a1_0 a1_1)) (some (F_spec_l03Point (((c14_spec_l03Point M a0_0 a0_1 a0_2 a0_3 a1_0 a1_1).fst, (c14_spec_l03Point M a0_0 a0_1 a0_2 a0_3 a1_0 a1_1).snd.fst, (c14_spec_l03Point M a0_0 a0_1 a0_2 a0_3 a1_0 a1_1).snd.snd)))) none)) (brT (a0_0 == 5) (brT (r_spec_l01Phasor M (c9_spec_l03Point M a0_0 a0_1 a0_2 a0_3 a1_0 a1_1)) (some (F_spec_l03Point (((c16_spec_l03Point M a0_0 a0_1 a0_2 a0_3 a1_0 a1_1).fst, (c16_spec_l03Point M a0_0 a0_1 a0_2 a0_3 a1_0 a1_1).snd.fst, (c16_spec_l03Point M a0_0 a0_1 a0_2 a0_3 a1_0 a1_1).snd.snd)))) none) (brT (r_spec_l01Phasor M (c9_spec_l03Point M a0_0 a0_1 a0_2 a0_3 a1_0 a1_1)) (some (F_spec_l03Point (((c18_spec_l03Point M a0_0 a0_1 a0_2 a0_3 a1_0 a1_1).fst, (c18_spec_l03Point M a0_0 a0_1 a0_2 a0_3 a1_0 a1_1).snd.fst, (c18_spec_l03Point M a0_0 a0_1 a0_2 a0_3 a1_0 a1_1).snd.snd)))) none)))))))) (by kernel_rfl)
    ((pushR (fun _ => rfl) (pushR (pushL (fun _ => (push2 rfl rfl))) (pushR (fun _ => rfl) (pushR (fun _ => rfl) (pushR (pushR (fun _ => rfl) (pushL (fun _ => rfl))) (pushR (pushL (fun _ => rfl)) (pushL (fun _ => rfl)))))))) h)
theorem ok_spec_l03Point : OkFn Tryz.prog 51 (S_spec_l03Point R) :=
  okFn_of (good_cons ok_spec_l03Number (good_cons ok_spec_l02Wrap (good_cons ok_spec_l02Cosine (good_cons ok_spec_l03Round (good_cons ok_spec_l02Stretch (good_cons ok_spec_l01Sine (good_cons ok_spec_l02Apart (good_cons ok_spec_l02Course (good_cons ok_spec_l01Scale (good_cons ok_spec_l01Phasor good_nil)))))))))) follows Tryz.func51 rfl (by decide) (by decide) lam_nil (m := 2) (fun _ => rfl) (by decide) (fun _ _ h => nomatch h) (fun _ _ h => nomatch h) (fun x hx => ⟨40, e_spec_l03Point R x.1.1 x.1.2.1.1 x.1.2.1.2 x.1.2.2 x.2.1.1 x.2.1.2 hx⟩)

set_option maxRecDepth 100000 in
theorem e_impl_Map_point (M : FOps) (a0_0 : Int) (a0_1 : Nat) (a0_2 : Nat) (a0_3 : Nat) (a1_0 : Nat) (a1_1 : Nat) (h : r_impl_Map_point M a0_0 a0_1 a0_2 a0_3 a1_0 a1_1 = true) : cwp M Tryz.prog (envOf [(139, S_impl_finitePoint M), (53, S_impl_wrap M), (99, S_impl_cosine M), (140, S_impl_StretchNorth M), (98, S_impl_SineTurns M), (141, S_impl_ApartOf M), (142, S_impl_CourseTo M), (143, S_impl_Map_ring M), (120, S_impl_ScaleComplex M), (144, S_impl_PhasorOf M)]) (lamOf []) 40 (Tryz.f88.body.getD .skip) 0 (retK Tryz.prog Tryz.f88.results.toList (.cons (.one (.cx .f32)) (.cons (.one .bool) .nil)) 0) (initSt (.cons (.agg (.pair (.int .i64) (.pair (.pair (.fl .f32) (.fl .f32)) (.fl .f32)))) (.cons (.agg (.pair (.fl .f32) (.fl .f32))) .nil)) ((a0_0, ((a0_1, a0_2), a0_3)), ((a1_0, a1_1), ()))) = some (F_impl_Map_point (p_impl_Map_point M a0_0 a0_1 a0_2 a0_3 a1_0 a1_1)) := 
  Eq.trans (b := (brT (a0_0 == 0) (some (F_impl_Map_point (((c3_impl_Map_point M a0_0 a0_1 a0_2 a0_3 a1_0 a1_1).fst, (c3_impl_Map_point M a0_0 a0_1 a0_2 a0_3 a1_0 a1_1).snd.fst, (c3_impl_Map_point M a0_0 a0_1 a0_2 a0_3 a1_0 a1_1).snd.snd)))) (brT (a0_0 == 1) (brT (r_impl_StretchNorth M a1_0) (some (F_impl_Map_point (((c5_impl_Map_point M a0_0 a0_1 a0_2 a0_3 a1_0 a1_1).fst, (c5_impl_Map_point M a0_0 a0_1 a0_2 a0_3 a1_0 a1_1).snd.fst, (c5_impl_Map_point M a0_0 a0_1 a0_2 a0_3 a1_0 a1_1).snd.snd)))) none) (brT (a0_0 == 2) (some (F_impl_Map_point (((c6_impl_Map_point M a0_0 a0_1 a0_2 a0_3 a1_0 a1_1).fst, (c6_impl_Map_point M a0_0 a0_1 a0_2 a0_3 a1_0 a1_1).snd.fst, (c6_impl_Map_point M a0_0 a0_1 a0_2 a0_3 a1_0 a1_1).snd.snd)))) (brT (a0_0 == 3) (some (F_impl_Map_point (((c7_impl_Map_point M a0_0 a0_1 a0_2 a0_3 a1_0 a1_1).fst, (c7_impl_Map_point M a0_0 a0_1 a0_2 a0_3 a1_0 a1_1).snd.fst, (c7_impl_Map_point M a0_0 a0_1 a0_2 a0_3 a1_0 a1_1).snd.snd)))) (brT (r_impl_PhasorOf M (c9_impl_Map_point M a0_0 a0_1 a0_2 a0_3 a1_0 a1_1)) (brT ((c10_impl_Map_point M a0_0 a0_1 a0_2 a0_3 a1_0 a1_1).snd) (brT ((c8_impl_Map_point M a0_0 a0_1 a0_2 a0_3 a1_0 a1_1).snd) (some (F_impl_Map_point (((c14_impl_Map_point M a0_0 a0_1 a0_2 a0_3 a1_0 a1_1).fst, (c14_impl_Map_point M a0_0 a0_1 a0_2 a0_3 a1_0 a1_1).snd.fst, (c14_impl_Map_point M a0_0 a0_1 a0_2 a0_3 a1_0 a1_1).snd.snd)))) (some (F_impl_Map_point (((c15_impl_Map_point M a0_0 a0_1 a0_2 a0_3 a1_0 a1_1).fst, (c15_impl_Map_point M a0_0 a0_1 a0_2 a0_3 a1_0 a1_1).snd.fst, (c15_impl_Map_point M a0_0 a0_1 a0_2 a0_3 a1_0 a1_1).snd.snd))))) (some (F_impl_Map_point (((c15_impl_Map_point M a0_0 a0_1 a0_2 a0_3 a1_0 a1_1).fst, (c15_impl_Map_point M a0_0 a0_1 a0_2 a0_3 a1_0 a1_1).snd.fst, (c15_impl_Map_point M a0_0 a0_1 a0_2 a0_3 a1_0 a1_1).snd.snd))))) none)))))) (by kernel_rfl)
    ((pushR (fun _ => rfl) (pushR (pushL (fun _ => rfl)) (pushR (fun _ => rfl) (pushR (fun _ => rfl) (pushL (fun _ => (push2 (push2 rfl rfl) rfl))))))) h)
theorem ok_impl_Map_point : OkFn Tryz.prog 88 (S_impl_Map_point R) :=
  okFn_of (good_cons ok_impl_finitePoint (good_cons ok_impl_wrap (good_cons ok_impl_cosine (good_cons ok_impl_StretchNorth (good_cons ok_impl_SineTurns (good_cons ok_impl_ApartOf (good_cons ok_impl_CourseTo (good_cons ok_impl_Map_ring (good_cons ok_impl_ScaleComplex (good_cons ok_impl_PhasorOf good_nil)))))))))) follows Tryz.func88 rfl (by decide) (by decide) lam_nil (m := 2) (fun _ => rfl) (by decide) (fun _ _ h => nomatch h) (fun _ _ h => nomatch h) (fun x hx => ⟨40, e_impl_Map_point R x.1.1 x.1.2.1.1 x.1.2.1.2 x.1.2.2 x.2.1.1 x.2.1.2 hx⟩)

set_option maxRecDepth 100000 in
theorem e_impl_PointOf (M : FOps) (a0_0 : Int) (a0_1 : Nat) (a0_2 : Nat) (a0_3 : Nat) (a1_0 : Nat) (a1_1 : Nat) (h : r_impl_PointOf M a0_0 a0_1 a0_2 a0_3 a1_0 a1_1 = true) : cwp M Tryz.prog (envOf [(46, S_impl_ValidMap M), (57, S_impl_ValidPlace M), (88, S_impl_Map_point M)]) (lamOf []) 40 (Tryz.f56.body.getD .skip) 0 (retK Tryz.prog Tryz.f56.results.toList (.cons (.one (.cx .f32)) (.cons (.one .bool) .nil)) 0) (initSt (.cons (.agg (.pair (.int .i64) (.pair (.pair (.fl .f32) (.fl .f32)) (.fl .f32)))) (.cons (.agg (.pair (.fl .f32) (.fl .f32))) .nil)) ((a0_0, ((a0_1, a0_2), a0_3)), ((a1_0, a1_1), ()))) = some (F_impl_PointOf (p_impl_PointOf M a0_0 a0_1 a0_2 a0_3 a1_0 a1_1)) := 
  Eq.trans (b := (brT (!p_impl_ValidMap M a0_0 a0_1 a0_2 a0_3) (some (F_impl_PointOf ((0, 0, false)))) (brT (!p_impl_ValidPlace M a1_0 a1_1) (some (F_impl_PointOf ((0, 0, false)))) (brT (r_impl_Map_point M a0_0 a0_1 a0_2 a0_3 a1_0 a1_1) (some (F_impl_PointOf (((c0_impl_PointOf M a0_0 a0_1 a0_2 a0_3 a1_0 a1_1).fst, (c0_impl_PointOf M a0_0 a0_1 a0_2 a0_3 a1_0 a1_1).snd.fst, (c0_impl_PointOf M a0_0 a0_1 a0_2 a0_3 a1_0 a1_1).snd.snd)))) none)))) (by kernel_rfl)
    ((pushR (fun _ => rfl) (pushR (fun _ => rfl) (pushL (fun _ => rfl)))) h)
theorem ok_impl_PointOf : OkFn Tryz.prog 56 (S_impl_PointOf R) :=
  okFn_of (good_cons ok_impl_ValidMap (good_cons ok_impl_ValidPlace (good_cons ok_impl_Map_point good_nil))) follows Tryz.func56 rfl (by decide) (by decide) lam_nil (m := 2) (fun _ => rfl) (by decide) (fun _ _ h => nomatch h) (fun _ _ h => nomatch h) (fun x hx => ⟨40, e_impl_PointOf R x.1.1 x.1.2.1.1 x.1.2.1.2 x.1.2.2 x.2.1.1 x.2.1.2 hx⟩)

end Go.Proofs.YtbgpobiaaebbeaaGreat

/- Printed by gen2.py. -/
set_option linter.unusedVariables false
set_option linter.unusedSimpArgs false

-- GENERATED BELOW (gen.py)
namespace Go.Proofs.YtbgpobiaaebbeaaGreat
open Go Go.Cv Go.Dv
end Go.Proofs.YtbgpobiaaebbeaaGreat
