/- Printed by gen2.py. -/
import Derived.Test.YtjohfkfpfjdceaaGreatDoorZkn
import Derived.Test.YtjohfkfpfjdceaaGreatDoorWkn

set_option linter.unusedVariables false
set_option linter.unusedSimpArgs false

-- GENERATED BELOW (gen.py)
namespace Go.Dv
open Go.Cv
noncomputable section
def F_spec_l01From (r : Nat) : AS.Ty (.cons (.one (.fl .f32)) .nil) × List CS := ((r, ()), [])
def p_spec_l01From (M : FOps) (a0 : Int) : Nat :=
  p_math_Float32frombits M (IntKind.u32.wrap a0)
def r_spec_l01From (M : FOps) (a0 : Int) : Bool :=
  ((decide (0 ≤ IntKind.u32.wrap a0) && decide (IntKind.u32.wrap a0 < 4294967296)) && true)
def S_spec_l01From (M : FOps) : FSpec := mkSpec (.cons (.one (.int .i64)) .nil) (.cons (.one (.fl .f32)) .nil) (fun x => r_spec_l01From M x.1) (fun x => F_spec_l01From (p_spec_l01From M x.1))

end
end Go.Dv


set_option linter.unusedVariables false
set_option linter.unusedSimpArgs false

-- GENERATED BELOW (gen.py)
namespace Go.Proofs.YtjohfkfpfjdceaaGreatDoor
open Go Go.Cv Go.Dv
set_option maxRecDepth 100000 in
theorem e_spec_l01From (M : FOps) (a0 : Int) (h : r_spec_l01From M a0 = true) : cwp M Tryz.prog (envOf [(61, S_math_Float32frombits M)]) (lamOf []) 40 (Tryz.f58.body.getD .skip) 0 (retK Tryz.prog Tryz.f58.results.toList (.cons (.one (.fl .f32)) .nil) 0) (initSt (.cons (.one (.int .i64)) .nil) (a0, ())) = some (F_spec_l01From (p_spec_l01From M a0)) := 
  Eq.trans (b := (brT (decide (0 ≤ IntKind.u32.wrap a0) && decide (IntKind.u32.wrap a0 < 4294967296)) (some (F_spec_l01From (p_math_Float32frombits M (IntKind.u32.wrap a0)))) none)) (by kernel_rfl)
    ((pushL (fun _ => rfl)) h)
theorem ok_spec_l01From : OkFn Tryz.prog 58 (S_spec_l01From R) :=
  okFn_of (good_cons ok_math_Float32frombits good_nil) follows Tryz.func58 rfl (by decide) (by decide) lam_nil (m := 1) (fun _ => rfl) (by decide) (fun _ _ h => nomatch h) (fun _ _ h => nomatch h) (fun x hx => ⟨40, e_spec_l01From R x.1 hx⟩)

end Go.Proofs.YtjohfkfpfjdceaaGreatDoor
