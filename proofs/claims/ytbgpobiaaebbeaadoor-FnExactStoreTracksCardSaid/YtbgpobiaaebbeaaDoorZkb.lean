/- Printed by gen2.py. -/
import Derived.Test.YtbgpobiaaebbeaaDoorWkb
import Derived.Test.YtbgpobiaaebbeaaDoorDu
import Derived.Test.YtbgpobiaaebbeaaDoorQd
import Derived.Test.YtbgpobiaaebbeaaDoorZke
import Derived.Test.YtbgpobiaaebbeaaDoorZf
import Derived.Test.YtbgpobiaaebbeaaDoorYt
import Derived.Test.YtbgpobiaaebbeaaDoorYe

set_option linter.unusedVariables false
set_option linter.unusedSimpArgs false

-- GENERATED BELOW (gen.py)
namespace Go.Proofs.YtbgpobiaaebbeaaDoor
open Go Go.Cv Go.Dv
set_option maxRecDepth 100000 in
theorem e_impl_BitsOf (M : FOps) (a0 : Nat) (h : r_impl_BitsOf M a0 = true) : cwp M Tryd.prog (envOf [(155, S_math_Float32bits M)]) (lamOf []) 40 (Tryd.f159.body.getD .skip) 0 (retK Tryd.prog Tryd.f159.results.toList (.cons (.one (.int .i64)) .nil) 0) (initSt (.cons (.one (.fl .f32)) .nil) (a0, ())) = some (F_impl_BitsOf (p_impl_BitsOf M a0)) := 
  Eq.trans (b := (brT (M.cmp BinOp.neq FloatKind.f32 a0 a0) (some (F_impl_BitsOf (2143289344))) (brT (M.cmp BinOp.eql FloatKind.f32 a0 a0) (some (F_impl_BitsOf (IntKind.i64.wrap (p_math_Float32bits M a0)))) none))) (by kernel_rfl)
    ((pushR (fun _ => rfl) (pushL (fun _ => rfl))) h)
theorem ok_impl_BitsOf : OkFn Tryd.prog 159 (S_impl_BitsOf R) :=
  okFn_of (good_cons ok_math_Float32bits good_nil) follows Tryd.func159 rfl (by decide) (by decide) lam_nil (m := 1) (fun _ => rfl) (by decide) (fun _ _ h => nomatch h) (fun _ _ h => nomatch h) (fun x hx => ⟨40, e_impl_BitsOf R x.1 hx⟩)

set_option maxRecDepth 100000 in
theorem e_spec_l01Bits (M : FOps) (a0 : Nat) (h : r_spec_l01Bits M a0 = true) : cwp M Tryd.prog (envOf [(155, S_math_Float32bits M)]) (lamOf []) 40 (Tryd.f133.body.getD .skip) 0 (retK Tryd.prog Tryd.f133.results.toList (.cons (.one (.int .i64)) .nil) 0) (initSt (.cons (.one (.fl .f32)) .nil) (a0, ())) = some (F_spec_l01Bits (p_spec_l01Bits M a0)) := 
  Eq.trans (b := (brT (M.cmp BinOp.neq FloatKind.f32 a0 a0) (some (F_spec_l01Bits (2143289344))) (brT (M.cmp BinOp.eql FloatKind.f32 a0 a0) (some (F_spec_l01Bits (IntKind.i64.wrap (p_math_Float32bits M a0)))) none))) (by kernel_rfl)
    ((pushR (fun _ => rfl) (pushL (fun _ => rfl))) h)
theorem ok_spec_l01Bits : OkFn Tryd.prog 133 (S_spec_l01Bits R) :=
  okFn_of (good_cons ok_math_Float32bits good_nil) follows Tryd.func133 rfl (by decide) (by decide) lam_nil (m := 1) (fun _ => rfl) (by decide) (fun _ _ h => nomatch h) (fun _ _ h => nomatch h) (fun x hx => ⟨40, e_spec_l01Bits R x.1 hx⟩)

end Go.Proofs.YtbgpobiaaebbeaaDoor
