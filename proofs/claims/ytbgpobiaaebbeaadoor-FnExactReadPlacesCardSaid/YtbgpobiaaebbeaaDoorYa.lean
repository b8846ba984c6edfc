/- Printed by gen2.py. -/
import Derived.Test.YtbgpobiaaebbeaaDoorFv
import Derived.Test.YtbgpobiaaebbeaaDoorQb
import Derived.Test.YtbgpobiaaebbeaaDoorYm

set_option linter.unusedVariables false
set_option linter.unusedSimpArgs false

-- GENERATED BELOW (gen.py)
namespace Go.Proofs.YtbgpobiaaebbeaaDoor
open Go Go.Cv Go.Dv
set_option maxRecDepth 100000 in
theorem e_impl_inside (M : FOps) (a0 : Nat) (a1 : Nat) (a2 : Nat) : cwp M Tryd.prog (envOf []) (lamOf []) 40 (Tryd.f147.body.getD .skip) 0 (retK Tryd.prog Tryd.f147.results.toList (.cons (.one .bool) .nil) 0) (initSt (.cons (.one (.fl .f32)) (.cons (.one (.fl .f32)) (.cons (.one (.fl .f32)) .nil))) (a0, (a1, (a2, ())))) = some (F_impl_inside (p_impl_inside M a0 a1 a2)) := 
  Eq.trans (b := (brT (M.cmp BinOp.geq FloatKind.f32 a0 a1) (some (F_impl_inside (M.cmp BinOp.leq FloatKind.f32 a0 a2))) (some (F_impl_inside (false))))) (by kernel_rfl)
    ((push2 rfl rfl))
theorem ok_impl_inside : OkFn Tryd.prog 147 (S_impl_inside R) :=
  okFn_of good_nil follows Tryd.func147 rfl (by decide) (by decide) lam_nil (m := 3) (fun _ => rfl) (by decide) (fun _ _ h => nomatch h) (fun _ _ h => nomatch h) (fun x _ => ⟨40, e_impl_inside R x.1 x.2.1 x.2.2.1⟩)

set_option maxRecDepth 100000 in
theorem e_impl_ValidPlace (M : FOps) (a0_0 : Nat) (a0_1 : Nat) : cwp M Tryd.prog (envOf [(147, S_impl_inside M)]) (lamOf []) 40 (Tryd.f117.body.getD .skip) 0 (retK Tryd.prog Tryd.f117.results.toList (.cons (.one .bool) .nil) 0) (initSt (.cons (.agg (.pair (.fl .f32) (.fl .f32))) .nil) ((a0_0, a0_1), ())) = some (F_impl_ValidPlace (p_impl_ValidPlace M a0_0 a0_1)) := 
  Eq.trans (b := (brT (p_impl_inside M a0_0 3196059648 1048576000) (brT (M.cmp BinOp.geq FloatKind.f32 a0_1 3204448256) (some (F_impl_ValidPlace (M.cmp BinOp.lss FloatKind.f32 a0_1 1056964608))) (some (F_impl_ValidPlace (false)))) (some (F_impl_ValidPlace (false))))) (by kernel_rfl)
    ((push2 (push2 rfl rfl) rfl))
theorem ok_impl_ValidPlace : OkFn Tryd.prog 117 (S_impl_ValidPlace R) :=
  okFn_of (good_cons ok_impl_inside good_nil) follows Tryd.func117 rfl (by decide) (by decide) lam_nil (m := 1) (fun _ => rfl) (by decide) (fun _ _ h => nomatch h) (fun _ _ h => nomatch h) (fun x _ => ⟨40, e_impl_ValidPlace R x.1.1 x.1.2⟩)

set_option maxRecDepth 100000 in
theorem e_spec_l02Is (M : FOps) (a0_0 : Nat) (a0_1 : Nat) : cwp M Tryd.prog (envOf []) (lamOf []) 40 (Tryd.f71.body.getD .skip) 0 (retK Tryd.prog Tryd.f71.results.toList (.cons (.one .bool) .nil) 0) (initSt (.cons (.ptr (.pair (.fl .f32) (.fl .f32))) .nil) ((a0_0, a0_1), ())) = some (F_spec_l02Is (p_spec_l02Is M a0_0 a0_1)) := 
  Eq.trans (b := (brT (M.cmp BinOp.geq FloatKind.f32 a0_0 3196059648) (brT (M.cmp BinOp.leq FloatKind.f32 a0_0 1048576000) (brT (M.cmp BinOp.geq FloatKind.f32 a0_1 3204448256) (some (F_spec_l02Is (M.cmp BinOp.lss FloatKind.f32 a0_1 1056964608))) (some (F_spec_l02Is (false)))) (some (F_spec_l02Is (false)))) (some (F_spec_l02Is (false))))) (by kernel_rfl)
    ((push2 (push2 (push2 rfl rfl) rfl) rfl))
theorem ok_spec_l02Is : OkFn Tryd.prog 71 (S_spec_l02Is R) :=
  okFn_of good_nil follows Tryd.func71 rfl (by decide) (by decide) lam_nil (m := 1) (fun _ => rfl) (by decide) (fun _ _ h => nomatch h) (fun _ _ h => nomatch h) (fun x _ => ⟨40, e_spec_l02Is R x.1.1 x.1.2⟩)

set_option maxRecDepth 100000 in
theorem e_impl_within (M : FOps) (a0 : Int) (a1 : Int) (a2 : Int) : cwp M Tryd.prog (envOf []) (lamOf []) 40 (Tryd.f67.body.getD .skip) 0 (retK Tryd.prog Tryd.f67.results.toList (.cons (.one .bool) .nil) 0) (initSt (.cons (.one (.int .i64)) (.cons (.one (.int .i64)) (.cons (.one (.int .i64)) .nil))) (a0, (a1, (a2, ())))) = some (F_impl_within (p_impl_within M a0 a1 a2)) := 
  Eq.trans (b := (brT (decide (a1 ≤ a0)) (some (F_impl_within (decide (a0 ≤ a2)))) (some (F_impl_within (false))))) (by kernel_rfl)
    ((push2 rfl rfl))
theorem ok_impl_within : OkFn Tryd.prog 67 (S_impl_within R) :=
  okFn_of good_nil follows Tryd.func67 rfl (by decide) (by decide) lam_nil (m := 3) (fun _ => rfl) (by decide) (fun _ _ h => nomatch h) (fun _ _ h => nomatch h) (fun x _ => ⟨40, e_impl_within R x.1 x.2.1 x.2.2.1⟩)

set_option maxRecDepth 100000 in
theorem e_laws_sameFloat (M : FOps) (a0 : Nat) (a1 : Nat) : cwp M Tryd.prog (envOf []) (lamOf []) 40 (Tryd.f76.body.getD .skip) 0 (retK Tryd.prog Tryd.f76.results.toList (.cons (.one .bool) .nil) 0) (initSt (.cons (.one (.fl .f64)) (.cons (.one (.fl .f64)) .nil)) (a0, (a1, ()))) = some (F_laws_sameFloat (p_laws_sameFloat M a0 a1)) := 
  Eq.trans (b := (brT (M.cmp BinOp.neq FloatKind.f64 a0 a0) (brT (M.cmp BinOp.neq FloatKind.f64 a0 a0) (some (F_laws_sameFloat (M.cmp BinOp.neq FloatKind.f64 a1 a1))) (some (F_laws_sameFloat (false)))) (brT (M.cmp BinOp.neq FloatKind.f64 a1 a1) (brT (M.cmp BinOp.neq FloatKind.f64 a0 a0) (some (F_laws_sameFloat (M.cmp BinOp.neq FloatKind.f64 a1 a1))) (some (F_laws_sameFloat (false)))) (brT (M.cmp BinOp.eql FloatKind.f64 a0 0) (brT (M.cmp BinOp.eql FloatKind.f64 a1 0) (some (F_laws_sameFloat (M.cmp BinOp.gtr FloatKind.f64 (M.bin BinOp.quo FloatKind.f64 4607182418800017408 a0) 0 == M.cmp BinOp.gtr FloatKind.f64 (M.bin BinOp.quo FloatKind.f64 4607182418800017408 a1) 0))) (some (F_laws_sameFloat (M.cmp BinOp.eql FloatKind.f64 a0 a1)))) (some (F_laws_sameFloat (M.cmp BinOp.eql FloatKind.f64 a0 a1))))))) (by kernel_rfl)
    ((push2 (push2 rfl rfl) (push2 (push2 rfl rfl) (push2 (push2 rfl rfl) rfl))))
theorem ok_laws_sameFloat : OkFn Tryd.prog 76 (S_laws_sameFloat R) :=
  okFn_of good_nil follows Tryd.func76 rfl (by decide) (by decide) lam_nil (m := 2) (fun _ => rfl) (by decide) (fun _ _ h => nomatch h) (fun _ _ h => nomatch h) (fun x _ => ⟨40, e_laws_sameFloat R x.1 x.2.1⟩)

set_option maxRecDepth 100000 in
theorem e_laws_eqPlace (M : FOps) (a0_0 : Nat) (a0_1 : Nat) (a1_0 : Nat) (a1_1 : Nat) : cwp M Tryd.prog (envOf [(76, S_laws_sameFloat M)]) (lamOf []) 40 (Tryd.f49.body.getD .skip) 0 (retK Tryd.prog Tryd.f49.results.toList (.cons (.one .bool) .nil) 0) (initSt (.cons (.agg (.pair (.fl .f32) (.fl .f32))) (.cons (.agg (.pair (.fl .f32) (.fl .f32))) .nil)) ((a0_0, a0_1), ((a1_0, a1_1), ()))) = some (F_laws_eqPlace (p_laws_eqPlace M a0_0 a0_1 a1_0 a1_1)) := 
  Eq.trans (b := (brT (!p_laws_sameFloat M (M.wid a0_0) (M.wid a1_0)) (some (F_laws_eqPlace (false))) (brT (!p_laws_sameFloat M (M.wid a0_1) (M.wid a1_1)) (some (F_laws_eqPlace (false))) (some (F_laws_eqPlace (true)))))) (by kernel_rfl)
    ((push2 rfl (push2 rfl rfl)))
theorem ok_laws_eqPlace : OkFn Tryd.prog 49 (S_laws_eqPlace R) :=
  okFn_of (good_cons ok_laws_sameFloat good_nil) follows Tryd.func49 rfl (by decide) (by decide) lam_nil (m := 2) (fun _ => rfl) (by decide) (fun _ _ h => nomatch h) (fun _ _ h => nomatch h) (fun x _ => ⟨40, e_laws_eqPlace R x.1.1 x.1.2 x.2.1.1 x.2.1.2⟩)

end Go.Proofs.YtbgpobiaaebbeaaDoor
