/- Printed by gen2.py. -/
import Derived.Test.YtbgpobiaaebbeaaGreatWr
import Derived.Test.YtbgpobiaaebbeaaGreatZp
set_option linter.unusedVariables false
set_option linter.unusedSimpArgs false

-- GENERATED BELOW (gen.py)
namespace Go.Proofs.YtbgpobiaaebbeaaGreat
open Go Go.Cv Go.Dv
set_option maxRecDepth 100000 in
theorem e_spec_l01PowerWide (M : FOps) (a0_0 : Nat) (a0_1 : Nat) : cwp M Tryz.prog (envOf []) (lamOf []) 40 (Tryz.f115.body.getD .skip) 0 (retK Tryz.prog Tryz.f115.results.toList (.cons (.one (.fl .f64)) .nil) 0) (initSt (.cons (.one (.cx .f32)) .nil) ((a0_0, a0_1), ())) = some (F_spec_l01PowerWide (p_spec_l01PowerWide M a0_0 a0_1)) := by kernel_rfl
theorem ok_spec_l01PowerWide : OkFn Tryz.prog 115 (S_spec_l01PowerWide R) :=
  okFn_of good_nil follows Tryz.func115 rfl (by decide) (by decide) lam_nil (m := 1) (fun _ => rfl) (by decide) (fun _ _ h => nomatch h) (fun _ _ h => nomatch h) (fun x _ => ⟨40, e_spec_l01PowerWide R x.1.1 x.1.2⟩)

set_option maxRecDepth 100000 in
theorem e_impl_parts (M : FOps) (a0_0 : Nat) (a0_1 : Nat) : cwp M Tryz.prog (envOf []) (lamOf []) 40 (Tryz.f169.body.getD .skip) 0 (retK Tryz.prog Tryz.f169.results.toList (.cons (.one (.fl .f64)) (.cons (.one (.fl .f64)) .nil)) 0) (initSt (.cons (.one (.cx .f32)) .nil) ((a0_0, a0_1), ())) = some (F_impl_parts (p_impl_parts M a0_0 a0_1)) := by kernel_rfl
theorem ok_impl_parts : OkFn Tryz.prog 169 (S_impl_parts R) :=
  okFn_of good_nil follows Tryz.func169 rfl (by decide) (by decide) lam_nil (m := 1) (fun _ => rfl) (by decide) (fun _ _ h => nomatch h) (fun _ _ h => nomatch h) (fun x _ => ⟨40, e_impl_parts R x.1.1 x.1.2⟩)

set_option maxRecDepth 100000 in
theorem e_impl_power (M : FOps) (a0_0 : Nat) (a0_1 : Nat) : cwp M Tryz.prog (envOf [(169, S_impl_parts M)]) (lamOf []) 40 (Tryz.f157.body.getD .skip) 0 (retK Tryz.prog Tryz.f157.results.toList (.cons (.one (.fl .f64)) .nil) 0) (initSt (.cons (.one (.cx .f32)) .nil) ((a0_0, a0_1), ())) = some (F_impl_power (p_impl_power M a0_0 a0_1)) := by kernel_rfl
theorem ok_impl_power : OkFn Tryz.prog 157 (S_impl_power R) :=
  okFn_of (good_cons ok_impl_parts good_nil) follows Tryz.func157 rfl (by decide) (by decide) lam_nil (m := 1) (fun _ => rfl) (by decide) (fun _ _ h => nomatch h) (fun _ _ h => nomatch h) (fun x _ => ⟨40, e_impl_power R x.1.1 x.1.2⟩)

set_option maxRecDepth 100000 in
theorem e_spec_l01Long (M : FOps) (a0_0 : Nat) (a0_1 : Nat) (h : r_spec_l01Long M a0_0 a0_1 = true) : cwp M Tryz.prog (envOf [(113, S_spec_l01Narrow M), (114, S_math_Sqrt M), (115, S_spec_l01PowerWide M)]) (lamOf []) 40 (Tryz.f70.body.getD .skip) 0 (retK Tryz.prog Tryz.f70.results.toList (.cons (.one (.fl .f32)) .nil) 0) (initSt (.cons (.one (.cx .f32)) .nil) ((a0_0, a0_1), ())) = some (F_spec_l01Long (p_spec_l01Long M a0_0 a0_1)) := 
  Eq.trans (b := (brT (r_spec_l01Narrow M (c0_spec_l01Long M a0_0 a0_1)) (some (F_spec_l01Long (p_spec_l01Narrow M (c0_spec_l01Long M a0_0 a0_1)))) none)) (by kernel_rfl)
    ((pushL (fun _ => rfl)) h)
theorem ok_spec_l01Long : OkFn Tryz.prog 70 (S_spec_l01Long R) :=
  okFn_of (good_cons ok_spec_l01Narrow (good_cons ok_math_Sqrt (good_cons ok_spec_l01PowerWide good_nil))) follows Tryz.func70 rfl (by decide) (by decide) lam_nil (m := 1) (fun _ => rfl) (by decide) (fun _ _ h => nomatch h) (fun _ _ h => nomatch h) (fun x hx => ⟨40, e_spec_l01Long R x.1.1 x.1.2 hx⟩)

set_option maxRecDepth 100000 in
theorem e_impl_LongOf (M : FOps) (a0_0 : Nat) (a0_1 : Nat) (h : r_impl_LongOf M a0_0 a0_1 = true) : cwp M Tryz.prog (envOf [(114, S_math_Sqrt M), (157, S_impl_power M)]) (lamOf []) 40 (Tryz.f123.body.getD .skip) 0 (retK Tryz.prog Tryz.f123.results.toList (.cons (.one (.fl .f32)) .nil) 0) (initSt (.cons (.one (.cx .f32)) .nil) ((a0_0, a0_1), ())) = some (F_impl_LongOf (p_impl_LongOf M a0_0 a0_1)) := 
  Eq.trans (b := (brT (M.narOk (c0_impl_LongOf M a0_0 a0_1)) (some (F_impl_LongOf (M.nar (c0_impl_LongOf M a0_0 a0_1)))) none)) (by kernel_rfl)
    ((pushL (fun _ => rfl)) h)
theorem ok_impl_LongOf : OkFn Tryz.prog 123 (S_impl_LongOf R) :=
  okFn_of (good_cons ok_math_Sqrt (good_cons ok_impl_power good_nil)) follows Tryz.func123 rfl (by decide) (by decide) lam_nil (m := 1) (fun _ => rfl) (by decide) (fun _ _ h => nomatch h) (fun _ _ h => nomatch h) (fun x hx => ⟨40, e_impl_LongOf R x.1.1 x.1.2 hx⟩)

set_option maxRecDepth 100000 in
theorem e_spec_l01Wide (M : FOps) (a0_0 : Nat) (a0_1 : Nat) : cwp M Tryz.prog (envOf []) (lamOf []) 40 (Tryz.f112.body.getD .skip) 0 (retK Tryz.prog Tryz.f112.results.toList (.cons (.one (.cx .f64)) .nil) 0) (initSt (.cons (.one (.cx .f32)) .nil) ((a0_0, a0_1), ())) = some (F_spec_l01Wide (p_spec_l01Wide M a0_0 a0_1)) := by kernel_rfl
theorem ok_spec_l01Wide : OkFn Tryz.prog 112 (S_spec_l01Wide R) :=
  okFn_of good_nil follows Tryz.func112 rfl (by decide) (by decide) lam_nil (m := 1) (fun _ => rfl) (by decide) (fun _ _ h => nomatch h) (fun _ _ h => nomatch h) (fun x _ => ⟨40, e_spec_l01Wide R x.1.1 x.1.2⟩)

set_option maxRecDepth 100000 in
theorem e_spec_l01WideMul (M : FOps) (a0_0 : Nat) (a0_1 : Nat) (a1_0 : Nat) (a1_1 : Nat) : cwp M Tryz.prog (envOf []) (lamOf []) 40 (Tryz.f111.body.getD .skip) 0 (retK Tryz.prog Tryz.f111.results.toList (.cons (.one (.cx .f64)) .nil) 0) (initSt (.cons (.one (.cx .f64)) (.cons (.one (.cx .f64)) .nil)) ((a0_0, a0_1), ((a1_0, a1_1), ()))) = some (F_spec_l01WideMul (p_spec_l01WideMul M a0_0 a0_1 a1_0 a1_1)) := by kernel_rfl
theorem ok_spec_l01WideMul : OkFn Tryz.prog 111 (S_spec_l01WideMul R) :=
  okFn_of good_nil follows Tryz.func111 rfl (by decide) (by decide) lam_nil (m := 2) (fun _ => rfl) (by decide) (fun _ _ h => nomatch h) (fun _ _ h => nomatch h) (fun x _ => ⟨40, e_spec_l01WideMul R x.1.1 x.1.2 x.2.1.1 x.2.1.2⟩)

set_option maxRecDepth 100000 in
theorem e_spec_l01CNarrow (M : FOps) (a0_0 : Nat) (a0_1 : Nat) (h : r_spec_l01CNarrow M a0_0 a0_1 = true) : cwp M Tryz.prog (envOf [(113, S_spec_l01Narrow M)]) (lamOf []) 40 (Tryz.f110.body.getD .skip) 0 (retK Tryz.prog Tryz.f110.results.toList (.cons (.one (.cx .f32)) .nil) 0) (initSt (.cons (.one (.cx .f64)) .nil) ((a0_0, a0_1), ())) = some (F_spec_l01CNarrow (p_spec_l01CNarrow M a0_0 a0_1)) := 
  Eq.trans (b := (brT (r_spec_l01Narrow M a0_0) (brT (r_spec_l01Narrow M a0_1) (some (F_spec_l01CNarrow ((p_spec_l01Narrow M a0_0, p_spec_l01Narrow M a0_1)))) none) none)) (by kernel_rfl)
    ((pushL (pushL (fun _ => rfl))) h)
theorem ok_spec_l01CNarrow : OkFn Tryz.prog 110 (S_spec_l01CNarrow R) :=
  okFn_of (good_cons ok_spec_l01Narrow good_nil) follows Tryz.func110 rfl (by decide) (by decide) lam_nil (m := 1) (fun _ => rfl) (by decide) (fun _ _ h => nomatch h) (fun _ _ h => nomatch h) (fun x hx => ⟨40, e_spec_l01CNarrow R x.1.1 x.1.2 hx⟩)

set_option maxRecDepth 100000 in
theorem e_spec_l01Mul (M : FOps) (a0_0 : Nat) (a0_1 : Nat) (a1_0 : Nat) (a1_1 : Nat) (h : r_spec_l01Mul M a0_0 a0_1 a1_0 a1_1 = true) : cwp M Tryz.prog (envOf [(110, S_spec_l01CNarrow M), (111, S_spec_l01WideMul M), (112, S_spec_l01Wide M)]) (lamOf []) 40 (Tryz.f68.body.getD .skip) 0 (retK Tryz.prog Tryz.f68.results.toList (.cons (.one (.cx .f32)) .nil) 0) (initSt (.cons (.one (.cx .f32)) (.cons (.one (.cx .f32)) .nil)) ((a0_0, a0_1), ((a1_0, a1_1), ()))) = some (F_spec_l01Mul (p_spec_l01Mul M a0_0 a0_1 a1_0 a1_1)) := 
  Eq.trans (b := (brT (r_spec_l01CNarrow M (c2_spec_l01Mul M a0_0 a0_1 a1_0 a1_1).fst (c2_spec_l01Mul M a0_0 a0_1 a1_0 a1_1).snd) (some (F_spec_l01Mul (((c3_spec_l01Mul M a0_0 a0_1 a1_0 a1_1).fst, (c3_spec_l01Mul M a0_0 a0_1 a1_0 a1_1).snd)))) none)) (by kernel_rfl)
    ((pushL (fun _ => rfl)) h)
theorem ok_spec_l01Mul : OkFn Tryz.prog 68 (S_spec_l01Mul R) :=
  okFn_of (good_cons ok_spec_l01CNarrow (good_cons ok_spec_l01WideMul (good_cons ok_spec_l01Wide good_nil))) follows Tryz.func68 rfl (by decide) (by decide) lam_nil (m := 2) (fun _ => rfl) (by decide) (fun _ _ h => nomatch h) (fun _ _ h => nomatch h) (fun x hx => ⟨40, e_spec_l01Mul R x.1.1 x.1.2 x.2.1.1 x.2.1.2 hx⟩)

set_option maxRecDepth 100000 in
theorem e_impl_product (M : FOps) (a0_0 : Nat) (a0_1 : Nat) (a1_0 : Nat) (a1_1 : Nat) : cwp M Tryz.prog (envOf [(169, S_impl_parts M)]) (lamOf []) 40 (Tryz.f156.body.getD .skip) 0 (retK Tryz.prog Tryz.f156.results.toList (.cons (.one (.fl .f64)) (.cons (.one (.fl .f64)) .nil)) 0) (initSt (.cons (.one (.cx .f32)) (.cons (.one (.cx .f32)) .nil)) ((a0_0, a0_1), ((a1_0, a1_1), ()))) = some (F_impl_product (p_impl_product M a0_0 a0_1 a1_0 a1_1)) := by kernel_rfl
theorem ok_impl_product : OkFn Tryz.prog 156 (S_impl_product R) :=
  okFn_of (good_cons ok_impl_parts good_nil) follows Tryz.func156 rfl (by decide) (by decide) lam_nil (m := 2) (fun _ => rfl) (by decide) (fun _ _ h => nomatch h) (fun _ _ h => nomatch h) (fun x _ => ⟨40, e_impl_product R x.1.1 x.1.2 x.2.1.1 x.2.1.2⟩)

set_option maxRecDepth 100000 in
theorem e_impl_MulComplex (M : FOps) (a0_0 : Nat) (a0_1 : Nat) (a1_0 : Nat) (a1_1 : Nat) (h : r_impl_MulComplex M a0_0 a0_1 a1_0 a1_1 = true) : cwp M Tryz.prog (envOf [(156, S_impl_product M)]) (lamOf []) 40 (Tryz.f119.body.getD .skip) 0 (retK Tryz.prog Tryz.f119.results.toList (.cons (.one (.cx .f32)) .nil) 0) (initSt (.cons (.one (.cx .f32)) (.cons (.one (.cx .f32)) .nil)) ((a0_0, a0_1), ((a1_0, a1_1), ()))) = some (F_impl_MulComplex (p_impl_MulComplex M a0_0 a0_1 a1_0 a1_1)) := 
  Eq.trans (b := (brT (M.narOk (c0_impl_MulComplex M a0_0 a0_1 a1_0 a1_1).fst) (brT (M.narOk (c0_impl_MulComplex M a0_0 a0_1 a1_0 a1_1).snd) (some (F_impl_MulComplex ((M.nar (c0_impl_MulComplex M a0_0 a0_1 a1_0 a1_1).fst, M.nar (c0_impl_MulComplex M a0_0 a0_1 a1_0 a1_1).snd)))) none) none)) (by kernel_rfl)
    ((pushL (pushL (fun _ => rfl))) h)
theorem ok_impl_MulComplex : OkFn Tryz.prog 119 (S_impl_MulComplex R) :=
  okFn_of (good_cons ok_impl_product good_nil) follows Tryz.func119 rfl (by decide) (by decide) lam_nil (m := 2) (fun _ => rfl) (by decide) (fun _ _ h => nomatch h) (fun _ _ h => nomatch h) (fun x hx => ⟨40, e_impl_MulComplex R x.1.1 x.1.2 x.2.1.1 x.2.1.2 hx⟩)

set_option maxRecDepth 100000 in
theorem e_spec_AngleOf (M : FOps) (a0_0 : Nat) (a0_1 : Nat) (h : r_spec_AngleOf M a0_0 a0_1 = true) : cwp M Tryz.prog (envOf [(113, S_spec_l01Narrow M), (116, S_spec_l01AngleWide M)]) (lamOf []) 40 (Tryz.f71.body.getD .skip) 0 (retK Tryz.prog Tryz.f71.results.toList (.cons (.one (.fl .f32)) .nil) 0) (initSt (.cons (.one (.cx .f32)) .nil) ((a0_0, a0_1), ())) = some (F_spec_AngleOf (p_spec_AngleOf M a0_0 a0_1)) := 
  Eq.trans (b := (brT (r_spec_l01Narrow M (c0_spec_AngleOf M a0_0 a0_1)) (some (F_spec_AngleOf (p_spec_l01Narrow M (c0_spec_AngleOf M a0_0 a0_1)))) none)) (by kernel_rfl)
    ((pushL (fun _ => rfl)) h)
theorem ok_spec_AngleOf : OkFn Tryz.prog 71 (S_spec_AngleOf R) :=
  okFn_of (good_cons ok_spec_l01Narrow (good_cons ok_spec_l01AngleWide good_nil)) follows Tryz.func71 rfl (by decide) (by decide) lam_nil (m := 1) (fun _ => rfl) (by decide) (fun _ _ h => nomatch h) (fun _ _ h => nomatch h) (fun x hx => ⟨40, e_spec_AngleOf R x.1.1 x.1.2 hx⟩)

set_option maxRecDepth 100000 in
theorem e_impl_AngleOf (M : FOps) (a0_0 : Nat) (a0_1 : Nat) : cwp M Tryz.prog (envOf [(104, S_impl_AngleTurns M)]) (lamOf []) 40 (Tryz.f125.body.getD .skip) 0 (retK Tryz.prog Tryz.f125.results.toList (.cons (.one (.fl .f32)) .nil) 0) (initSt (.cons (.one (.cx .f32)) .nil) ((a0_0, a0_1), ())) = some (F_impl_AngleOf (p_impl_AngleOf M a0_0 a0_1)) := by kernel_rfl
theorem ok_impl_AngleOf : OkFn Tryz.prog 125 (S_impl_AngleOf R) :=
  okFn_of (good_cons ok_impl_AngleTurns good_nil) follows Tryz.func125 rfl (by decide) (by decide) lam_nil (m := 1) (fun _ => rfl) (by decide) (fun _ _ h => nomatch h) (fun _ _ h => nomatch h) (fun x _ => ⟨40, e_impl_AngleOf R x.1.1 x.1.2⟩)

set_option maxRecDepth 100000 in
theorem e_spec_l03Axes (M : FOps) (a0_0 : Int) (a0_1 : Nat) (a0_2 : Nat) (a0_3 : Nat) (a1_0 : Nat) (a1_1 : Nat) (h : r_spec_l03Axes M a0_0 a0_1 a0_2 a0_3 a1_0 a1_1 = true) : cwp M Tryz.prog (envOf [(70, S_spec_l01Long M), (67, S_spec_l03Steps M), (68, S_spec_l01Mul M), (71, S_spec_AngleOf M), (69, S_spec_l01Scale M), (60, S_spec_l01Finite M), (72, S_spec_l02Size M)]) (lamOf []) 40 (Tryz.f40.body.getD .skip) 0 (retK Tryz.prog Tryz.f40.results.toList (.cons (.one (.fl .f32)) (.cons (.one (.fl .f32)) (.cons (.one (.fl .f32)) (.cons (.one .bool) .nil)))) 0) (initSt (.cons (.ptr (.pair (.int .i64) (.pair (.pair (.fl .f32) (.fl .f32)) (.fl .f32)))) (.cons (.agg (.pair (.fl .f32) (.fl .f32))) .nil)) ((a0_0, ((a0_1, a0_2), a0_3)), ((a1_0, a1_1), ()))) = some (F_spec_l03Axes (p_spec_l03Axes M a0_0 a0_1 a0_2 a0_3 a1_0 a1_1)) := 
  Eq.trans (b := (brT (r_spec_l03Steps M a0_0 a0_1 a0_2 a0_3 a1_0 a1_1) (brT (!(c0_spec_l03Axes M a0_0 a0_1 a0_2 a0_3 a1_0 a1_1).snd.snd.snd.snd) (some (F_spec_l03Axes ((0, 0, 0, false)))) (brT (r_spec_l01Mul M (c0_spec_l03Axes M a0_0 a0_1 a0_2 a0_3 a1_0 a1_1).snd.snd.fst (c0_spec_l03Axes M a0_0 a0_1 a0_2 a0_3 a1_0 a1_1).snd.snd.snd.fst 0 1065353216) (brT (r_spec_l01Long M (c2_spec_l03Axes M a0_0 a0_1 a0_2 a0_3 a1_0 a1_1).fst (c2_spec_l03Axes M a0_0 a0_1 a0_2 a0_3 a1_0 a1_1).snd) (brT (r_spec_l01Long M (c3_spec_l03Axes M a0_0 a0_1 a0_2 a0_3 a1_0 a1_1).fst (c3_spec_l03Axes M a0_0 a0_1 a0_2 a0_3 a1_0 a1_1).snd) (brT (!(M.cmp BinOp.eql FloatKind.f32 (c2_spec_l03Axes M a0_0 a0_1 a0_2 a0_3 a1_0 a1_1).fst 0 && M.cmp BinOp.eql FloatKind.f32 (c2_spec_l03Axes M a0_0 a0_1 a0_2 a0_3 a1_0 a1_1).snd 0)) (brT (!(M.cmp BinOp.eql FloatKind.f32 (c3_spec_l03Axes M a0_0 a0_1 a0_2 a0_3 a1_0 a1_1).fst 0 && M.cmp BinOp.eql FloatKind.f32 (c3_spec_l03Axes M a0_0 a0_1 a0_2 a0_3 a1_0 a1_1).snd 0)) (brT (r_spec_AngleOf M (c2_spec_l03Axes M a0_0 a0_1 a0_2 a0_3 a1_0 a1_1).fst (c2_spec_l03Axes M a0_0 a0_1 a0_2 a0_3 a1_0 a1_1).snd) (brT (r_spec_AngleOf M (c3_spec_l03Axes M a0_0 a0_1 a0_2 a0_3 a1_0 a1_1).fst (c3_spec_l03Axes M a0_0 a0_1 a0_2 a0_3 a1_0 a1_1).snd) (brT (!p_spec_l01Finite M (c6_spec_l03Axes M a0_0 a0_1 a0_2 a0_3 a1_0 a1_1)) (some (F_spec_l03Axes ((0, 0, 0, false)))) (brT (!p_spec_l01Finite M (c7_spec_l03Axes M a0_0 a0_1 a0_2 a0_3 a1_0 a1_1)) (some (F_spec_l03Axes ((0, 0, 0, false)))) (some (F_spec_l03Axes (((c6_spec_l03Axes M a0_0 a0_1 a0_2 a0_3 a1_0 a1_1), p_spec_l02Size M (M.bin BinOp.sub FloatKind.f32 (c4_spec_l03Axes M a0_0 a0_1 a0_2 a0_3 a1_0 a1_1) (c5_spec_l03Axes M a0_0 a0_1 a0_2 a0_3 a1_0 a1_1)), (c7_spec_l03Axes M a0_0 a0_1 a0_2 a0_3 a1_0 a1_1), true)))))) none) none) (brT (!p_spec_l01Finite M (c6_spec_l03Axes M a0_0 a0_1 a0_2 a0_3 a1_0 a1_1)) (some (F_spec_l03Axes ((0, 0, 0, false)))) (brT (!p_spec_l01Finite M 0) (some (F_spec_l03Axes ((0, 0, 0, false)))) (some (F_spec_l03Axes (((c6_spec_l03Axes M a0_0 a0_1 a0_2 a0_3 a1_0 a1_1), p_spec_l02Size M (M.bin BinOp.sub FloatKind.f32 (c4_spec_l03Axes M a0_0 a0_1 a0_2 a0_3 a1_0 a1_1) (c5_spec_l03Axes M a0_0 a0_1 a0_2 a0_3 a1_0 a1_1)), 0, true))))))) (brT (!p_spec_l01Finite M (c6_spec_l03Axes M a0_0 a0_1 a0_2 a0_3 a1_0 a1_1)) (some (F_spec_l03Axes ((0, 0, 0, false)))) (brT (!p_spec_l01Finite M 0) (some (F_spec_l03Axes ((0, 0, 0, false)))) (some (F_spec_l03Axes (((c6_spec_l03Axes M a0_0 a0_1 a0_2 a0_3 a1_0 a1_1), p_spec_l02Size M (M.bin BinOp.sub FloatKind.f32 (c4_spec_l03Axes M a0_0 a0_1 a0_2 a0_3 a1_0 a1_1) (c5_spec_l03Axes M a0_0 a0_1 a0_2 a0_3 a1_0 a1_1)), 0, true))))))) none) none) none)) none)) (by kernel_rfl)
    ((pushL (pushR (fun _ => rfl) (pushL (pushL (pushL (pushR (pushR (pushL (pushL (fun _ => (push2 rfl (push2 rfl rfl))))) (fun _ => (push2 rfl (push2 rfl rfl)))) (fun _ => (push2 rfl (push2 rfl rfl))))))))) h)
theorem ok_spec_l03Axes : OkFn Tryz.prog 40 (S_spec_l03Axes R) :=
  okFn_of (good_cons ok_spec_l01Long (good_cons ok_spec_l03Steps (good_cons ok_spec_l01Mul (good_cons ok_spec_AngleOf (good_cons ok_spec_l01Scale (good_cons ok_spec_l01Finite (good_cons ok_spec_l02Size good_nil))))))) follows Tryz.func40 rfl (by decide) (by decide) lam_nil (m := 2) (fun _ => rfl) (by decide) (fun _ _ h => nomatch h) (fun _ _ h => nomatch h) (fun x hx => ⟨40, e_spec_l03Axes R x.1.1 x.1.2.1.1 x.1.2.1.2 x.1.2.2 x.2.1.1 x.2.1.2 hx⟩)

set_option maxRecDepth 100000 in
theorem e_impl_AxesAt (M : FOps) (a0_0 : Int) (a0_1 : Nat) (a0_2 : Nat) (a0_3 : Nat) (a1_0 : Nat) (a1_1 : Nat) (h : r_impl_AxesAt M a0_0 a0_1 a0_2 a0_3 a1_0 a1_1 = true) : cwp M Tryz.prog (envOf [(123, S_impl_LongOf M), (121, S_impl_less M), (118, S_impl_Map_steps M), (125, S_impl_AngleOf M), (119, S_impl_MulComplex M), (120, S_impl_ScaleComplex M), (122, S_impl_plus M), (124, S_impl_absolute M), (97, S_impl_areFinite M)]) (lamOf []) 40 (Tryz.f74.body.getD .skip) 0 (retK Tryz.prog Tryz.f74.results.toList (.cons (.one (.fl .f32)) (.cons (.one (.fl .f32)) (.cons (.one (.fl .f32)) (.cons (.one .bool) .nil)))) 0) (initSt (.cons (.agg (.pair (.int .i64) (.pair (.pair (.fl .f32) (.fl .f32)) (.fl .f32)))) (.cons (.agg (.pair (.fl .f32) (.fl .f32))) .nil)) ((a0_0, ((a0_1, a0_2), a0_3)), ((a1_0, a1_1), ()))) = some (F_impl_AxesAt (p_impl_AxesAt M a0_0 a0_1 a0_2 a0_3 a1_0 a1_1)) := 
  Eq.trans (b := (brT (r_impl_Map_steps M a0_0 a0_1 a0_2 a0_3 a1_0 a1_1) (brT (!(c0_impl_AxesAt M a0_0 a0_1 a0_2 a0_3 a1_0 a1_1).snd.snd.snd.snd) (some (F_impl_AxesAt ((0, 0, 0, false)))) (brT (r_impl_MulComplex M (c0_impl_AxesAt M a0_0 a0_1 a0_2 a0_3 a1_0 a1_1).snd.snd.fst (c0_impl_AxesAt M a0_0 a0_1 a0_2 a0_3 a1_0 a1_1).snd.snd.snd.fst 0 1065353216) (brT (r_impl_LongOf M (c3_impl_AxesAt M a0_0 a0_1 a0_2 a0_3 a1_0 a1_1).fst (c3_impl_AxesAt M a0_0 a0_1 a0_2 a0_3 a1_0 a1_1).snd) (brT (r_impl_LongOf M (c5_impl_AxesAt M a0_0 a0_1 a0_2 a0_3 a1_0 a1_1).fst (c5_impl_AxesAt M a0_0 a0_1 a0_2 a0_3 a1_0 a1_1).snd) (brT (r_impl_LongOf M (c3_impl_AxesAt M a0_0 a0_1 a0_2 a0_3 a1_0 a1_1).fst (c3_impl_AxesAt M a0_0 a0_1 a0_2 a0_3 a1_0 a1_1).snd) (brT (r_impl_LongOf M (c5_impl_AxesAt M a0_0 a0_1 a0_2 a0_3 a1_0 a1_1).fst (c5_impl_AxesAt M a0_0 a0_1 a0_2 a0_3 a1_0 a1_1).snd) (brT (!(M.cmp BinOp.eql FloatKind.f32 (c3_impl_AxesAt M a0_0 a0_1 a0_2 a0_3 a1_0 a1_1).fst 0 && M.cmp BinOp.eql FloatKind.f32 (c3_impl_AxesAt M a0_0 a0_1 a0_2 a0_3 a1_0 a1_1).snd 0)) (brT (!(M.cmp BinOp.eql FloatKind.f32 (c5_impl_AxesAt M a0_0 a0_1 a0_2 a0_3 a1_0 a1_1).fst 0 && M.cmp BinOp.eql FloatKind.f32 (c5_impl_AxesAt M a0_0 a0_1 a0_2 a0_3 a1_0 a1_1).snd 0)) (brT (!(p_impl_IsFinite M (c8_impl_AxesAt M a0_0 a0_1 a0_2 a0_3 a1_0 a1_1) && (p_impl_IsFinite M (c9_impl_AxesAt M a0_0 a0_1 a0_2 a0_3 a1_0 a1_1) && (p_impl_IsFinite M (c10_impl_AxesAt M a0_0 a0_1 a0_2 a0_3 a1_0 a1_1) && true)))) (some (F_impl_AxesAt ((0, 0, 0, false)))) (some (F_impl_AxesAt (((c8_impl_AxesAt M a0_0 a0_1 a0_2 a0_3 a1_0 a1_1), (c9_impl_AxesAt M a0_0 a0_1 a0_2 a0_3 a1_0 a1_1), (c10_impl_AxesAt M a0_0 a0_1 a0_2 a0_3 a1_0 a1_1), true))))) (brT (!(p_impl_IsFinite M (c8_impl_AxesAt M a0_0 a0_1 a0_2 a0_3 a1_0 a1_1) && (p_impl_IsFinite M (c9_impl_AxesAt M a0_0 a0_1 a0_2 a0_3 a1_0 a1_1) && (p_impl_IsFinite M 0 && true)))) (some (F_impl_AxesAt ((0, 0, 0, false)))) (some (F_impl_AxesAt (((c8_impl_AxesAt M a0_0 a0_1 a0_2 a0_3 a1_0 a1_1), (c9_impl_AxesAt M a0_0 a0_1 a0_2 a0_3 a1_0 a1_1), 0, true)))))) (brT (!(p_impl_IsFinite M (c8_impl_AxesAt M a0_0 a0_1 a0_2 a0_3 a1_0 a1_1) && (p_impl_IsFinite M (c9_impl_AxesAt M a0_0 a0_1 a0_2 a0_3 a1_0 a1_1) && (p_impl_IsFinite M 0 && true)))) (some (F_impl_AxesAt ((0, 0, 0, false)))) (some (F_impl_AxesAt (((c8_impl_AxesAt M a0_0 a0_1 a0_2 a0_3 a1_0 a1_1), (c9_impl_AxesAt M a0_0 a0_1 a0_2 a0_3 a1_0 a1_1), 0, true)))))) none) none) none) none) none)) none)) (by kernel_rfl)
    ((pushL (pushR (fun _ => rfl) (pushL (pushL (pushL (pushL (pushL (fun _ => (push2 (push2 (push2 rfl rfl) (push2 rfl rfl)) (push2 rfl rfl)))))))))) h)
theorem ok_impl_AxesAt : OkFn Tryz.prog 74 (S_impl_AxesAt R) :=
  okFn_of (good_cons ok_impl_LongOf (good_cons ok_impl_less (good_cons ok_impl_Map_steps (good_cons ok_impl_AngleOf (good_cons ok_impl_MulComplex (good_cons ok_impl_ScaleComplex (good_cons ok_impl_plus (good_cons ok_impl_absolute (good_cons ok_impl_areFinite good_nil))))))))) follows Tryz.func74 rfl (by decide) (by decide) lam_nil (m := 2) (fun _ => rfl) (by decide) (fun _ _ h => nomatch h) (fun _ _ h => nomatch h) (fun x hx => ⟨40, e_impl_AxesAt R x.1.1 x.1.2.1.1 x.1.2.1.2 x.1.2.2 x.2.1.1 x.2.1.2 hx⟩)

end Go.Proofs.YtbgpobiaaebbeaaGreat
