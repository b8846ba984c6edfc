/- Printed by gen2.py. -/
import Derived.Test.YtbgpobiaaebbeaaGreatDoorFv
import Derived.Test.YtbgpobiaaebbeaaGreatDoorWa
import Derived.Test.YtbgpobiaaebbeaaGreatDoorYm

set_option linter.unusedVariables false
set_option linter.unusedSimpArgs false

-- GENERATED BELOW (gen.py)
namespace Go.Proofs.YtbgpobiaaebbeaaGreatDoor
open Go Go.Cv Go.Dv
set_option maxRecDepth 100000 in
theorem e_impl_isFinite (M : FOps) (a0 : Nat) : cwp M Tryz.prog (envOf []) (lamOf []) 40 (Tryz.f60.body.getD .skip) 0 (retK Tryz.prog Tryz.f60.results.toList (.cons (.one .bool) .nil) 0) (initSt (.cons (.one (.fl .f64)) .nil) (a0, ())) = some (F_impl_isFinite (p_impl_isFinite M a0)) := by kernel_rfl
theorem ok_impl_isFinite : OkFn Tryz.prog 60 (S_impl_isFinite R) :=
  okFn_of good_nil follows Tryz.func60 rfl (by decide) (by decide) lam_nil (m := 1) (fun _ => rfl) (by decide) (fun _ _ h => nomatch h) (fun _ _ h => nomatch h) (fun x _ => ⟨40, e_impl_isFinite R x.1⟩)

set_option maxRecDepth 100000 in
theorem e_impl_IsFinite (M : FOps) (a0 : Nat) : cwp M Tryz.prog (envOf [(60, S_impl_isFinite M)]) (lamOf []) 40 (Tryz.f43.body.getD .skip) 0 (retK Tryz.prog Tryz.f43.results.toList (.cons (.one .bool) .nil) 0) (initSt (.cons (.one (.fl .f32)) .nil) (a0, ())) = some (F_impl_IsFinite (p_impl_IsFinite M a0)) := by kernel_rfl
theorem ok_impl_IsFinite : OkFn Tryz.prog 43 (S_impl_IsFinite R) :=
  okFn_of (good_cons ok_impl_isFinite good_nil) follows Tryz.func43 rfl (by decide) (by decide) lam_nil (m := 1) (fun _ => rfl) (by decide) (fun _ _ h => nomatch h) (fun _ _ h => nomatch h) (fun x _ => ⟨40, e_impl_IsFinite R x.1⟩)

set_option maxRecDepth 100000 in
theorem e_spec_l01Finite (M : FOps) (a0 : Nat) : cwp M Tryz.prog (envOf []) (lamOf []) 40 (Tryz.f61.body.getD .skip) 0 (retK Tryz.prog Tryz.f61.results.toList (.cons (.one .bool) .nil) 0) (initSt (.cons (.one (.fl .f32)) .nil) (a0, ())) = some (F_spec_l01Finite (p_spec_l01Finite M a0)) := by kernel_rfl
theorem ok_spec_l01Finite : OkFn Tryz.prog 61 (S_spec_l01Finite R) :=
  okFn_of good_nil follows Tryz.func61 rfl (by decide) (by decide) lam_nil (m := 1) (fun _ => rfl) (by decide) (fun _ _ h => nomatch h) (fun _ _ h => nomatch h) (fun x _ => ⟨40, e_spec_l01Finite R x.1⟩)

set_option maxRecDepth 100000 in
theorem e_impl_within (M : FOps) (a0 : Int) (a1 : Int) (a2 : Int) : cwp M Tryz.prog (envOf []) (lamOf []) 40 (Tryz.f42.body.getD .skip) 0 (retK Tryz.prog Tryz.f42.results.toList (.cons (.one .bool) .nil) 0) (initSt (.cons (.one (.int .i64)) (.cons (.one (.int .i64)) (.cons (.one (.int .i64)) .nil))) (a0, (a1, (a2, ())))) = some (F_impl_within (p_impl_within M a0 a1 a2)) := 
  Eq.trans (b := (brT (decide (a1 ≤ a0)) (some (F_impl_within (decide (a0 ≤ a2)))) (some (F_impl_within (false))))) (by kernel_rfl)
    ((push2 rfl rfl))
theorem ok_impl_within : OkFn Tryz.prog 42 (S_impl_within R) :=
  okFn_of good_nil follows Tryz.func42 rfl (by decide) (by decide) lam_nil (m := 3) (fun _ => rfl) (by decide) (fun _ _ h => nomatch h) (fun _ _ h => nomatch h) (fun x _ => ⟨40, e_impl_within R x.1 x.2.1 x.2.2.1⟩)

set_option maxRecDepth 100000 in
theorem e_laws_sameFloat (M : FOps) (a0 : Nat) (a1 : Nat) : cwp M Tryz.prog (envOf []) (lamOf []) 40 (Tryz.f29.body.getD .skip) 0 (retK Tryz.prog Tryz.f29.results.toList (.cons (.one .bool) .nil) 0) (initSt (.cons (.one (.fl .f64)) (.cons (.one (.fl .f64)) .nil)) (a0, (a1, ()))) = some (F_laws_sameFloat (p_laws_sameFloat M a0 a1)) := 
  Eq.trans (b := (brT (M.cmp BinOp.neq FloatKind.f64 a0 a0) (brT (M.cmp BinOp.neq FloatKind.f64 a0 a0) (some (F_laws_sameFloat (M.cmp BinOp.neq FloatKind.f64 a1 a1))) (some (F_laws_sameFloat (false)))) (brT (M.cmp BinOp.neq FloatKind.f64 a1 a1) (brT (M.cmp BinOp.neq FloatKind.f64 a0 a0) (some (F_laws_sameFloat (M.cmp BinOp.neq FloatKind.f64 a1 a1))) (some (F_laws_sameFloat (false)))) (brT (M.cmp BinOp.eql FloatKind.f64 a0 0) (brT (M.cmp BinOp.eql FloatKind.f64 a1 0) (some (F_laws_sameFloat (M.cmp BinOp.gtr FloatKind.f64 (M.bin BinOp.quo FloatKind.f64 4607182418800017408 a0) 0 == M.cmp BinOp.gtr FloatKind.f64 (M.bin BinOp.quo FloatKind.f64 4607182418800017408 a1) 0))) (some (F_laws_sameFloat (M.cmp BinOp.eql FloatKind.f64 a0 a1)))) (some (F_laws_sameFloat (M.cmp BinOp.eql FloatKind.f64 a0 a1))))))) (by kernel_rfl)
    ((push2 (push2 rfl rfl) (push2 (push2 rfl rfl) (push2 (push2 rfl rfl) rfl))))
theorem ok_laws_sameFloat : OkFn Tryz.prog 29 (S_laws_sameFloat R) :=
  okFn_of good_nil follows Tryz.func29 rfl (by decide) (by decide) lam_nil (m := 2) (fun _ => rfl) (by decide) (fun _ _ h => nomatch h) (fun _ _ h => nomatch h) (fun x _ => ⟨40, e_laws_sameFloat R x.1 x.2.1⟩)

end Go.Proofs.YtbgpobiaaebbeaaGreatDoor
