/- What further functions give, as plain functions. -/
import Derived.Test.YtmhmedbhngmmpaaPc

set_option linter.unusedVariables false
-- GENERATED BELOW (gen.py)
namespace Go.Cv
def F_impl_areValid_1 (r : Bool) : CV := .one (.s (.v (.bool r)))
def p_impl_areValid_1 (M : FOps) (a0_0 : Nat) (a0_1 : Nat) : Bool :=
  (!p_impl_ValidPlace M a0_0 a0_1)
def S_impl_areValid_1 (M : FOps) : FSpec := fun _ args => match args with
  | [.agg [.fl .f32 a0_0, .fl .f32 a0_1]] => some (true, F_impl_areValid_1 (p_impl_areValid_1 M a0_0 a0_1), [])
  | _ => none


end Go.Cv
