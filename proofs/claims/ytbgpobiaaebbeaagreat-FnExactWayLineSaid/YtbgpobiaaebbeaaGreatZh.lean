/- Zg, Zh: merged by merge.py. -/
import Derived.Test.YtbgpobiaaebbeaaGreatWh
import Derived.Test.YtbgpobiaaebbeaaGreatQd
import Derived.Test.YtbgpobiaaebbeaaGreatWa
import Derived.Test.YtbgpobiaaebbeaaGreatYc
import Derived.Test.YtbgpobiaaebbeaaGreatQa
import Derived.Test.YtbgpobiaaebbeaaGreatYa
import Derived.Test.YtbgpobiaaebbeaaGreatLo
import Derived.Test.YtbgpobiaaebbeaaGreatZa

/- Printed by gen2.py. -/
set_option linter.unusedVariables false
set_option linter.unusedSimpArgs false

-- GENERATED BELOW (gen.py)
namespace Go.Proofs.YtbgpobiaaebbeaaGreat
open Go Go.Cv Go.Dv
set_option maxRecDepth 100000 in
theorem hs_spec_l01LogWide_0 (M : FOps) (v0 : Nat) (v1 : Int) (v2 : Nat) : cwp M Tryz.prog (envOf [(128, S_math_NaN M), (127, S_math_Inf M), (158, S_math_IsInf M)]) (lamOf []) 40 ((loopsOf (Tryz.f126.body.getD .skip)).getD 0 .skip) 1 (stepK (.cons (.tv 0 false (.fl .f64)) (.cons (.tv 3 false (.int .i64)) (.cons (.tv 2 false (.fl .f64)) .nil))) [((.exit 1), (.cons (.tv 0 false (.fl .f64)) (.cons (.tv 3 false (.int .i64)) (.cons (.tv 2 false (.fl .f64)) .nil))))]) (canon (.cons (.tv 0 false (.fl .f64)) (.cons (.tv 3 false (.int .i64)) (.cons (.tv 2 false (.fl .f64)) .nil))) 0 0 (v0, (v1, (v2, ())))) = st_spec_l01LogWide_0 M v0 v1 v2 := by
  unfold st_spec_l01LogWide_0
  kernel_rfl
set_option maxRecDepth 100000 in
theorem lk_spec_l01LogWide_0 : LOk Tryz.prog Tryz.f126.ntmps ((loopsOf (Tryz.f126.body.getD .skip)).getD 0 .skip) (L_spec_l01LogWide_0 R) :=
  lok (F := 40) (Λ := lamOf []) (b := 1) (good_cons ok_math_NaN (good_cons ok_math_Inf (good_cons ok_math_IsInf good_nil))) follows (by kernel_rfl) (fun _ _ _ _ h => nomatch h) (by decide) (by decide) (by decide) (fun x => hs_spec_l01LogWide_0 R x.1 x.2.1 x.2.2.1)
set_option maxRecDepth 100000 in
theorem hs_spec_l01LogWide_1 (M : FOps) (v0 : Nat) (v1 : Int) (v2 : Nat) : cwp M Tryz.prog (envOf [(128, S_math_NaN M), (127, S_math_Inf M), (158, S_math_IsInf M)]) (lamOf []) 40 ((loopsOf (Tryz.f126.body.getD .skip)).getD 1 .skip) 2 (stepK (.cons (.tv 0 false (.fl .f64)) (.cons (.tv 3 false (.int .i64)) (.cons (.tv 2 false (.fl .f64)) .nil))) [((.exit 3), (.cons (.tv 0 false (.fl .f64)) (.cons (.tv 3 false (.int .i64)) (.cons (.tv 2 false (.fl .f64)) .nil))))]) (canon (.cons (.tv 0 false (.fl .f64)) (.cons (.tv 3 false (.int .i64)) (.cons (.tv 2 false (.fl .f64)) .nil))) 0 0 (v0, (v1, (v2, ())))) = st_spec_l01LogWide_1 M v0 v1 v2 := by
  unfold st_spec_l01LogWide_1
  kernel_rfl
set_option maxRecDepth 100000 in
theorem lk_spec_l01LogWide_1 : LOk Tryz.prog Tryz.f126.ntmps ((loopsOf (Tryz.f126.body.getD .skip)).getD 1 .skip) (L_spec_l01LogWide_1 R) :=
  lok (F := 40) (Λ := lamOf []) (b := 2) (good_cons ok_math_NaN (good_cons ok_math_Inf (good_cons ok_math_IsInf good_nil))) follows (by kernel_rfl) (fun _ _ _ _ h => nomatch h) (by decide) (by decide) (by decide) (fun x => hs_spec_l01LogWide_1 R x.1 x.2.1 x.2.2.1)
set_option maxRecDepth 100000 in
theorem e_spec_l01LogWide (M : FOps) (a0 : Nat) (h : r_spec_l01LogWide M a0 = true) : cwp M Tryz.prog (envOf [(128, S_math_NaN M), (127, S_math_Inf M), (158, S_math_IsInf M)]) (lamOf [(0, L_spec_l01LogWide_0 M), (1, L_spec_l01LogWide_1 M)]) 40 (Tryz.f126.body.getD .skip) 0 (retK Tryz.prog Tryz.f126.results.toList (.cons (.one (.fl .f64)) .nil) 0) (initSt (.cons (.one (.fl .f64)) .nil) (a0, ())) = some (F_spec_l01LogWide (p_spec_l01LogWide M a0)) := 
  Eq.trans (b := (brT (M.cmp BinOp.neq FloatKind.f64 a0 a0) (some (F_spec_l01LogWide ((c0_spec_l01LogWide M a0)))) (brT (M.cmp BinOp.lss FloatKind.f64 a0 0) (some (F_spec_l01LogWide ((c0_spec_l01LogWide M a0)))) (brT (M.cmp BinOp.eql FloatKind.f64 a0 0) (some (F_spec_l01LogWide (p_math_Inf M (Int.negSucc 0)))) (brT (p_math_IsInf M a0 1) (some (F_spec_l01LogWide (a0))) (brT ((c1_spec_l01LogWide M a0).isSome) (brT ((c2_spec_l01LogWide M a0).isSome) (some (F_spec_l01LogWide (M.bin BinOp.add FloatKind.f64 (M.bin BinOp.mul FloatKind.f64 4611686018427387904 (M.bin BinOp.mul FloatKind.f64 (c3_spec_l01LogWide M a0) (M.bin BinOp.add FloatKind.f64 (M.bin BinOp.quo FloatKind.f64 4607182418800017408 (M.ofi FloatKind.f64 (Int.ofNat 1))) (M.bin BinOp.mul FloatKind.f64 (M.bin BinOp.mul FloatKind.f64 (c3_spec_l01LogWide M a0) (c3_spec_l01LogWide M a0)) (M.bin BinOp.add FloatKind.f64 (M.bin BinOp.quo FloatKind.f64 4607182418800017408 (M.ofi FloatKind.f64 (Int.ofNat 3))) (M.bin BinOp.mul FloatKind.f64 (M.bin BinOp.mul FloatKind.f64 (c3_spec_l01LogWide M a0) (c3_spec_l01LogWide M a0)) (M.bin BinOp.add FloatKind.f64 (M.bin BinOp.quo FloatKind.f64 4607182418800017408 (M.ofi FloatKind.f64 (Int.ofNat 5))) (M.bin BinOp.mul FloatKind.f64 (M.bin BinOp.mul FloatKind.f64 (c3_spec_l01LogWide M a0) (c3_spec_l01LogWide M a0)) (M.bin BinOp.add FloatKind.f64 (M.bin BinOp.quo FloatKind.f64 4607182418800017408 (M.ofi FloatKind.f64 (Int.ofNat 7))) (M.bin BinOp.mul FloatKind.f64 (M.bin BinOp.mul FloatKind.f64 (c3_spec_l01LogWide M a0) (c3_spec_l01LogWide M a0)) (M.bin BinOp.add FloatKind.f64 (M.bin BinOp.quo FloatKind.f64 4607182418800017408 (M.ofi FloatKind.f64 (Int.ofNat 9))) (M.bin BinOp.mul FloatKind.f64 (M.bin BinOp.mul FloatKind.f64 (c3_spec_l01LogWide M a0) (c3_spec_l01LogWide M a0)) (M.bin BinOp.add FloatKind.f64 (M.bin BinOp.quo FloatKind.f64 4607182418800017408 (M.ofi FloatKind.f64 (Int.ofNat 11))) (M.bin BinOp.mul FloatKind.f64 (M.bin BinOp.mul FloatKind.f64 (c3_spec_l01LogWide M a0) (c3_spec_l01LogWide M a0)) (M.bin BinOp.add FloatKind.f64 (M.bin BinOp.quo FloatKind.f64 4607182418800017408 (M.ofi FloatKind.f64 (Int.ofNat 13))) (M.bin BinOp.mul FloatKind.f64 (M.bin BinOp.mul FloatKind.f64 (c3_spec_l01LogWide M a0) (c3_spec_l01LogWide M a0)) (M.bin BinOp.add FloatKind.f64 (M.bin BinOp.quo FloatKind.f64 4607182418800017408 (M.ofi FloatKind.f64 (Int.ofNat 15))) (M.bin BinOp.mul FloatKind.f64 (M.bin BinOp.mul FloatKind.f64 (c3_spec_l01LogWide M a0) (c3_spec_l01LogWide M a0)) (M.bin BinOp.add FloatKind.f64 (M.bin BinOp.quo FloatKind.f64 4607182418800017408 (M.ofi FloatKind.f64 (Int.ofNat 17))) (M.bin BinOp.mul FloatKind.f64 (M.bin BinOp.mul FloatKind.f64 (c3_spec_l01LogWide M a0) (c3_spec_l01LogWide M a0)) (M.bin BinOp.add FloatKind.f64 (M.bin BinOp.quo FloatKind.f64 4607182418800017408 (M.ofi FloatKind.f64 (Int.ofNat 19))) (M.bin BinOp.mul FloatKind.f64 (M.bin BinOp.mul FloatKind.f64 (c3_spec_l01LogWide M a0) (c3_spec_l01LogWide M a0)) (M.bin BinOp.add FloatKind.f64 (M.bin BinOp.quo FloatKind.f64 4607182418800017408 (M.ofi FloatKind.f64 (Int.ofNat 21))) (M.bin BinOp.mul FloatKind.f64 (M.bin BinOp.mul FloatKind.f64 (c3_spec_l01LogWide M a0) (c3_spec_l01LogWide M a0)) (M.bin BinOp.add FloatKind.f64 (M.bin BinOp.quo FloatKind.f64 4607182418800017408 (M.ofi FloatKind.f64 (Int.ofNat 23))) (M.bin BinOp.mul FloatKind.f64 (M.bin BinOp.mul FloatKind.f64 (c3_spec_l01LogWide M a0) (c3_spec_l01LogWide M a0)) (M.bin BinOp.add FloatKind.f64 (M.bin BinOp.quo FloatKind.f64 4607182418800017408 (M.ofi FloatKind.f64 25)) (M.bin BinOp.mul FloatKind.f64 (M.bin BinOp.mul FloatKind.f64 (c3_spec_l01LogWide M a0) (c3_spec_l01LogWide M a0)) 0)))))))))))))))))))))))))))) (M.bin BinOp.mul FloatKind.f64 (M.ofi FloatKind.f64 ((c2_spec_l01LogWide M a0).getD (0, 0, 0, ())).snd.fst) 4604418534313441775)))) none) none)))))) (by kernel_rfl)
    ((pushR (fun _ => rfl) (pushR (fun _ => rfl) (pushR (fun _ => rfl) (pushR (fun _ => rfl) (pushL (pushL (fun _ => rfl))))))) h)
theorem ok_spec_l01LogWide : OkFn Tryz.prog 126 (S_spec_l01LogWide R) :=
  okFn_of (good_cons ok_math_NaN (good_cons ok_math_Inf (good_cons ok_math_IsInf good_nil))) follows Tryz.func126 rfl (by decide) (by decide) (lam_cons (i := 0) (cc := (loopsOf (Tryz.f126.body.getD .skip)).getD 0 .skip) (by kernel_rfl) lk_spec_l01LogWide_0 (lam_cons (i := 1) (cc := (loopsOf (Tryz.f126.body.getD .skip)).getD 1 .skip) (by kernel_rfl) lk_spec_l01LogWide_1 lam_nil)) (m := 1) (fun _ => rfl) (by decide) (fun _ _ h => nomatch h) (fun _ _ h => nomatch h) (fun x hx => ⟨40, e_spec_l01LogWide R x.1 hx⟩)

set_option maxRecDepth 100000 in
theorem hs_impl_logarithm_0 (M : FOps) (v0 : Nat) (v1 : Int) (v2 : Nat) : cwp M Tryz.prog (envOf []) (lamOf []) 40 ((loopsOf (Tryz.f129.body.getD .skip)).getD 0 .skip) 1 (stepK (.cons (.tv 3 false (.fl .f64)) (.cons (.tv 4 false (.int .i64)) (.cons (.tv 2 false (.fl .f64)) .nil))) [((.exit 0), (.cons (.tv 3 false (.fl .f64)) (.cons (.tv 4 false (.int .i64)) (.cons (.tv 2 false (.fl .f64)) .nil))))]) (canon (.cons (.tv 3 false (.fl .f64)) (.cons (.tv 4 false (.int .i64)) (.cons (.tv 2 false (.fl .f64)) .nil))) 0 0 (v0, (v1, (v2, ())))) = st_impl_logarithm_0 M v0 v1 v2 := by
  unfold st_impl_logarithm_0
  kernel_rfl
set_option maxRecDepth 100000 in
theorem lk_impl_logarithm_0 : LOk Tryz.prog Tryz.f129.ntmps ((loopsOf (Tryz.f129.body.getD .skip)).getD 0 .skip) (L_impl_logarithm_0 R) :=
  lok (F := 40) (Λ := lamOf []) (b := 1) good_nil follows (by kernel_rfl) (fun _ _ _ _ h => nomatch h) (by decide) (by decide) (by decide) (fun x => hs_impl_logarithm_0 R x.1 x.2.1 x.2.2.1)
set_option maxRecDepth 100000 in
theorem hs_impl_logarithm_1 (M : FOps) (v0 : Nat) (v1 : Int) (v2 : Nat) : cwp M Tryz.prog (envOf []) (lamOf []) 40 ((loopsOf (Tryz.f129.body.getD .skip)).getD 1 .skip) 2 (stepK (.cons (.tv 3 false (.fl .f64)) (.cons (.tv 4 false (.int .i64)) (.cons (.tv 2 false (.fl .f64)) .nil))) [((.exit 2), (.cons (.tv 3 false (.fl .f64)) (.cons (.tv 4 false (.int .i64)) (.cons (.tv 2 false (.fl .f64)) .nil))))]) (canon (.cons (.tv 3 false (.fl .f64)) (.cons (.tv 4 false (.int .i64)) (.cons (.tv 2 false (.fl .f64)) .nil))) 0 0 (v0, (v1, (v2, ())))) = st_impl_logarithm_1 M v0 v1 v2 := by
  unfold st_impl_logarithm_1
  kernel_rfl
set_option maxRecDepth 100000 in
theorem lk_impl_logarithm_1 : LOk Tryz.prog Tryz.f129.ntmps ((loopsOf (Tryz.f129.body.getD .skip)).getD 1 .skip) (L_impl_logarithm_1 R) :=
  lok (F := 40) (Λ := lamOf []) (b := 2) good_nil follows (by kernel_rfl) (fun _ _ _ _ h => nomatch h) (by decide) (by decide) (by decide) (fun x => hs_impl_logarithm_1 R x.1 x.2.1 x.2.2.1)
set_option maxRecDepth 100000 in
theorem e_impl_logarithm (M : FOps) (a0 : Nat) (h : r_impl_logarithm M a0 = true) : cwp M Tryz.prog (envOf []) (lamOf [(0, L_impl_logarithm_0 M), (1, L_impl_logarithm_1 M)]) 40 (Tryz.f129.body.getD .skip) 0 (retK Tryz.prog Tryz.f129.results.toList (.cons (.one (.fl .f64)) .nil) 0) (initSt (.cons (.one (.fl .f32)) .nil) (a0, ())) = some (F_impl_logarithm (p_impl_logarithm M a0)) := 
  Eq.trans (b := (brT ((c0_impl_logarithm M a0).isSome) (brT ((c1_impl_logarithm M a0).isSome) (some (F_impl_logarithm (M.bin BinOp.add FloatKind.f64 (M.bin BinOp.mul FloatKind.f64 4611686018427387904 (M.bin BinOp.mul FloatKind.f64 (c2_impl_logarithm M a0) (M.bin BinOp.add FloatKind.f64 (M.bin BinOp.quo FloatKind.f64 4607182418800017408 (M.ofi FloatKind.f64 (Int.ofNat 1))) (M.bin BinOp.mul FloatKind.f64 (M.bin BinOp.mul FloatKind.f64 (c2_impl_logarithm M a0) (c2_impl_logarithm M a0)) (M.bin BinOp.add FloatKind.f64 (M.bin BinOp.quo FloatKind.f64 4607182418800017408 (M.ofi FloatKind.f64 (Int.ofNat 3))) (M.bin BinOp.mul FloatKind.f64 (M.bin BinOp.mul FloatKind.f64 (c2_impl_logarithm M a0) (c2_impl_logarithm M a0)) (M.bin BinOp.add FloatKind.f64 (M.bin BinOp.quo FloatKind.f64 4607182418800017408 (M.ofi FloatKind.f64 (Int.ofNat 5))) (M.bin BinOp.mul FloatKind.f64 (M.bin BinOp.mul FloatKind.f64 (c2_impl_logarithm M a0) (c2_impl_logarithm M a0)) (M.bin BinOp.add FloatKind.f64 (M.bin BinOp.quo FloatKind.f64 4607182418800017408 (M.ofi FloatKind.f64 (Int.ofNat 7))) (M.bin BinOp.mul FloatKind.f64 (M.bin BinOp.mul FloatKind.f64 (c2_impl_logarithm M a0) (c2_impl_logarithm M a0)) (M.bin BinOp.add FloatKind.f64 (M.bin BinOp.quo FloatKind.f64 4607182418800017408 (M.ofi FloatKind.f64 (Int.ofNat 9))) (M.bin BinOp.mul FloatKind.f64 (M.bin BinOp.mul FloatKind.f64 (c2_impl_logarithm M a0) (c2_impl_logarithm M a0)) (M.bin BinOp.add FloatKind.f64 (M.bin BinOp.quo FloatKind.f64 4607182418800017408 (M.ofi FloatKind.f64 (Int.ofNat 11))) (M.bin BinOp.mul FloatKind.f64 (M.bin BinOp.mul FloatKind.f64 (c2_impl_logarithm M a0) (c2_impl_logarithm M a0)) (M.bin BinOp.add FloatKind.f64 (M.bin BinOp.quo FloatKind.f64 4607182418800017408 (M.ofi FloatKind.f64 (Int.ofNat 13))) (M.bin BinOp.mul FloatKind.f64 (M.bin BinOp.mul FloatKind.f64 (c2_impl_logarithm M a0) (c2_impl_logarithm M a0)) (M.bin BinOp.add FloatKind.f64 (M.bin BinOp.quo FloatKind.f64 4607182418800017408 (M.ofi FloatKind.f64 (Int.ofNat 15))) (M.bin BinOp.mul FloatKind.f64 (M.bin BinOp.mul FloatKind.f64 (c2_impl_logarithm M a0) (c2_impl_logarithm M a0)) (M.bin BinOp.add FloatKind.f64 (M.bin BinOp.quo FloatKind.f64 4607182418800017408 (M.ofi FloatKind.f64 (Int.ofNat 17))) (M.bin BinOp.mul FloatKind.f64 (M.bin BinOp.mul FloatKind.f64 (c2_impl_logarithm M a0) (c2_impl_logarithm M a0)) (M.bin BinOp.add FloatKind.f64 (M.bin BinOp.quo FloatKind.f64 4607182418800017408 (M.ofi FloatKind.f64 (Int.ofNat 19))) (M.bin BinOp.mul FloatKind.f64 (M.bin BinOp.mul FloatKind.f64 (c2_impl_logarithm M a0) (c2_impl_logarithm M a0)) (M.bin BinOp.add FloatKind.f64 (M.bin BinOp.quo FloatKind.f64 4607182418800017408 (M.ofi FloatKind.f64 (Int.ofNat 21))) (M.bin BinOp.mul FloatKind.f64 (M.bin BinOp.mul FloatKind.f64 (c2_impl_logarithm M a0) (c2_impl_logarithm M a0)) (M.bin BinOp.add FloatKind.f64 (M.bin BinOp.quo FloatKind.f64 4607182418800017408 (M.ofi FloatKind.f64 (Int.ofNat 23))) (M.bin BinOp.mul FloatKind.f64 (M.bin BinOp.mul FloatKind.f64 (c2_impl_logarithm M a0) (c2_impl_logarithm M a0)) (M.bin BinOp.add FloatKind.f64 (M.bin BinOp.quo FloatKind.f64 4607182418800017408 (M.ofi FloatKind.f64 25)) (M.bin BinOp.mul FloatKind.f64 (M.bin BinOp.mul FloatKind.f64 (c2_impl_logarithm M a0) (c2_impl_logarithm M a0)) 0)))))))))))))))))))))))))))) (M.bin BinOp.mul FloatKind.f64 (M.ofi FloatKind.f64 ((c1_impl_logarithm M a0).getD (0, 0, 0, ())).snd.fst) 4604418534313441775)))) none) none)) (by kernel_rfl)
    ((pushL (pushL (fun _ => rfl))) h)
theorem ok_impl_logarithm : OkFn Tryz.prog 129 (S_impl_logarithm R) :=
  okFn_of good_nil follows Tryz.func129 rfl (by decide) (by decide) (lam_cons (i := 0) (cc := (loopsOf (Tryz.f129.body.getD .skip)).getD 0 .skip) (by kernel_rfl) lk_impl_logarithm_0 (lam_cons (i := 1) (cc := (loopsOf (Tryz.f129.body.getD .skip)).getD 1 .skip) (by kernel_rfl) lk_impl_logarithm_1 lam_nil)) (m := 1) (fun _ => rfl) (by decide) (fun _ _ h => nomatch h) (fun _ _ h => nomatch h) (fun x hx => ⟨40, e_impl_logarithm R x.1 hx⟩)

end Go.Proofs.YtbgpobiaaebbeaaGreat

/- Printed by gen2.py. -/
set_option linter.unusedVariables false
set_option linter.unusedSimpArgs false

-- GENERATED BELOW (gen.py)
namespace Go.Proofs.YtbgpobiaaebbeaaGreat
open Go Go.Cv Go.Dv
set_option maxRecDepth 100000 in
theorem e_spec_l01Log (M : FOps) (a0 : Nat) (h : r_spec_l01Log M a0 = true) : cwp M Tryz.prog (envOf [(113, S_spec_l01Narrow M), (126, S_spec_l01LogWide M)]) (lamOf []) 40 (Tryz.f75.body.getD .skip) 0 (retK Tryz.prog Tryz.f75.results.toList (.cons (.one (.fl .f32)) .nil) 0) (initSt (.cons (.one (.fl .f32)) .nil) (a0, ())) = some (F_spec_l01Log (p_spec_l01Log M a0)) := 
  Eq.trans (b := (brT (r_spec_l01LogWide M (c0_spec_l01Log M a0)) (brT (r_spec_l01Narrow M (c1_spec_l01Log M a0)) (some (F_spec_l01Log (p_spec_l01Narrow M (c1_spec_l01Log M a0)))) none) none)) (by kernel_rfl)
    ((pushL (pushL (fun _ => rfl))) h)
theorem ok_spec_l01Log : OkFn Tryz.prog 75 (S_spec_l01Log R) :=
  okFn_of (good_cons ok_spec_l01Narrow (good_cons ok_spec_l01LogWide good_nil)) follows Tryz.func75 rfl (by decide) (by decide) lam_nil (m := 1) (fun _ => rfl) (by decide) (fun _ _ h => nomatch h) (fun _ _ h => nomatch h) (fun x hx => ⟨40, e_spec_l01Log R x.1 hx⟩)

set_option maxRecDepth 100000 in
theorem e_spec_l02Stretch (M : FOps) (a0 : Nat) (h : r_spec_l02Stretch M a0 = true) : cwp M Tryz.prog (envOf [(76, S_spec_l02Number M), (79, S_spec_l02Cosine M), (83, S_spec_l01Sine M), (75, S_spec_l01Log M)]) (lamOf []) 40 (Tryz.f82.body.getD .skip) 0 (retK Tryz.prog Tryz.f82.results.toList (.cons (.one (.fl .f32)) (.cons (.one .bool) .nil)) 0) (initSt (.cons (.one (.fl .f32)) .nil) (a0, ())) = some (F_spec_l02Stretch (p_spec_l02Stretch M a0)) := 
  Eq.trans (b := (brT (M.cmp BinOp.gtr FloatKind.f32 a0 3196059648) (brT (!M.cmp BinOp.lss FloatKind.f32 a0 1048576000) (some (F_spec_l02Stretch ((0, false)))) (brT (r_spec_l01Log M (c0_spec_l02Stretch M a0)) (some (F_spec_l02Stretch (((c1_spec_l02Stretch M a0).fst, (c1_spec_l02Stretch M a0).snd)))) none)) (some (F_spec_l02Stretch ((0, false)))))) (by kernel_rfl)
    ((pushR (pushR (fun _ => rfl) (pushL (fun _ => rfl))) (fun _ => rfl)) h)
theorem ok_spec_l02Stretch : OkFn Tryz.prog 82 (S_spec_l02Stretch R) :=
  okFn_of (good_cons ok_spec_l02Number (good_cons ok_spec_l02Cosine (good_cons ok_spec_l01Sine (good_cons ok_spec_l01Log good_nil)))) follows Tryz.func82 rfl (by decide) (by decide) lam_nil (m := 1) (fun _ => rfl) (by decide) (fun _ _ h => nomatch h) (fun _ _ h => nomatch h) (fun x hx => ⟨40, e_spec_l02Stretch R x.1 hx⟩)

set_option maxRecDepth 100000 in
theorem e_impl_LogNumber (M : FOps) (a0 : Nat) (h : r_impl_LogNumber M a0 = true) : cwp M Tryz.prog (envOf [(63, S_impl_IsFinite M), (128, S_math_NaN M), (127, S_math_Inf M), (129, S_impl_logarithm M)]) (lamOf []) 40 (Tryz.f77.body.getD .skip) 0 (retK Tryz.prog Tryz.f77.results.toList (.cons (.one (.fl .f32)) .nil) 0) (initSt (.cons (.one (.fl .f32)) .nil) (a0, ())) = some (F_impl_LogNumber (p_impl_LogNumber M a0)) := 
  Eq.trans (b := (brT (M.cmp BinOp.eql FloatKind.f32 a0 0) (brT (M.narOk (c0_impl_LogNumber M a0)) (some (F_impl_LogNumber (M.nar (c0_impl_LogNumber M a0)))) none) (brT (M.cmp BinOp.lss FloatKind.f32 a0 0) (brT ((c2_impl_LogNumber M a0)) (some (F_impl_LogNumber ((c3_impl_LogNumber M a0)))) none) (brT (M.cmp BinOp.neq FloatKind.f32 a0 a0) (brT ((c2_impl_LogNumber M a0)) (some (F_impl_LogNumber ((c3_impl_LogNumber M a0)))) none) (brT (!p_impl_IsFinite M a0) (some (F_impl_LogNumber (a0))) (brT (r_impl_logarithm M a0) (brT (M.narOk (c4_impl_LogNumber M a0)) (some (F_impl_LogNumber (M.nar (c4_impl_LogNumber M a0)))) none) none)))))) (by kernel_rfl)
    ((pushR (pushL (fun _ => rfl)) (pushR (pushL (fun _ => rfl)) (pushR (pushL (fun _ => rfl)) (pushR (fun _ => rfl) (pushL (pushL (fun _ => rfl))))))) h)
theorem ok_impl_LogNumber : OkFn Tryz.prog 77 (S_impl_LogNumber R) :=
  okFn_of (good_cons ok_impl_IsFinite (good_cons ok_math_NaN (good_cons ok_math_Inf (good_cons ok_impl_logarithm good_nil)))) follows Tryz.func77 rfl (by decide) (by decide) lam_nil (m := 1) (fun _ => rfl) (by decide) (fun _ _ h => nomatch h) (fun _ _ h => nomatch h) (fun x hx => ⟨40, e_impl_LogNumber R x.1 hx⟩)

set_option maxRecDepth 100000 in
theorem e_impl_stretch (M : FOps) (a0 : Nat) (h : r_impl_stretch M a0 = true) : cwp M Tryz.prog (envOf [(98, S_impl_SineTurns M), (99, S_impl_cosine M), (77, S_impl_LogNumber M)]) (lamOf []) 40 (Tryz.f164.body.getD .skip) 0 (retK Tryz.prog Tryz.f164.results.toList (.cons (.one (.fl .f32)) .nil) 0) (initSt (.cons (.one (.fl .f32)) .nil) (a0, ())) = some (F_impl_stretch (p_impl_stretch M a0)) := 
  Eq.trans (b := (brT (r_impl_LogNumber M (c0_impl_stretch M a0)) (some (F_impl_stretch (M.bin BinOp.quo FloatKind.f32 (p_impl_LogNumber M (c0_impl_stretch M a0)) 1086918619))) none)) (by kernel_rfl)
    ((pushL (fun _ => rfl)) h)
theorem ok_impl_stretch : OkFn Tryz.prog 164 (S_impl_stretch R) :=
  okFn_of (good_cons ok_impl_SineTurns (good_cons ok_impl_cosine (good_cons ok_impl_LogNumber good_nil))) follows Tryz.func164 rfl (by decide) (by decide) lam_nil (m := 1) (fun _ => rfl) (by decide) (fun _ _ h => nomatch h) (fun _ _ h => nomatch h) (fun x hx => ⟨40, e_impl_stretch R x.1 hx⟩)

set_option maxRecDepth 100000 in
theorem e_impl_StretchNorth (M : FOps) (a0 : Nat) (h : r_impl_StretchNorth M a0 = true) : cwp M Tryz.prog (envOf [(52, S_impl_finite M), (164, S_impl_stretch M), (165, S_impl_isBetweenPoles M)]) (lamOf []) 40 (Tryz.f140.body.getD .skip) 0 (retK Tryz.prog Tryz.f140.results.toList (.cons (.one (.fl .f32)) (.cons (.one .bool) .nil)) 0) (initSt (.cons (.one (.fl .f32)) .nil) (a0, ())) = some (F_impl_StretchNorth (p_impl_StretchNorth M a0)) := 
  Eq.trans (b := (brT (r_impl_stretch M a0) (some (F_impl_StretchNorth (((c0_impl_StretchNorth M a0).fst, (c0_impl_StretchNorth M a0).snd)))) none)) (by kernel_rfl)
    ((pushL (fun _ => rfl)) h)
theorem ok_impl_StretchNorth : OkFn Tryz.prog 140 (S_impl_StretchNorth R) :=
  okFn_of (good_cons ok_impl_finite (good_cons ok_impl_stretch (good_cons ok_impl_isBetweenPoles good_nil))) follows Tryz.func140 rfl (by decide) (by decide) lam_nil (m := 1) (fun _ => rfl) (by decide) (fun _ _ h => nomatch h) (fun _ _ h => nomatch h) (fun x hx => ⟨40, e_impl_StretchNorth R x.1 hx⟩)

end Go.Proofs.YtbgpobiaaebbeaaGreat
