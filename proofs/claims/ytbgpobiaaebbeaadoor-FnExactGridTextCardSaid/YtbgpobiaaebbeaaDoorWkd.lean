/- Printed by gen2.py. -/
import Derived.Test.YtbgpobiaaebbeaaDoorWkc
set_option linter.unusedVariables false
set_option linter.unusedSimpArgs false

-- GENERATED BELOW (gen.py)
namespace Go.Dv
open Go.Cv
noncomputable section
def c0_laws_FnExactGridText (M : FOps) (a0_0 : Int) (a0_1 : Int) (a0_2 : (List Nat)) : Int := p_laws_szGrid M a0_0 a0_1 a0_2 1048576
def c1_laws_FnExactGridText (M : FOps) (a0_0 : Int) (a0_1 : Int) (a0_2 : (List Nat)) : Int × Int × List Nat := p_laws_toGrid M a0_0 a0_1 a0_2
def c2_laws_FnExactGridText (M : FOps) (a0_0 : Int) (a0_1 : Int) (a0_2 : (List Nat)) : ByteArray × Bool := p_impl_GridText M (c1_laws_FnExactGridText M a0_0 a0_1 a0_2).fst (c1_laws_FnExactGridText M a0_0 a0_1 a0_2).snd.fst (c1_laws_FnExactGridText M a0_0 a0_1 a0_2).snd.snd
def c3_laws_FnExactGridText (M : FOps) (a0_0 : Int) (a0_1 : Int) (a0_2 : (List Nat)) : ByteArray × Bool := p_spec_GridText M (c1_laws_FnExactGridText M a0_0 a0_1 a0_2).fst (c1_laws_FnExactGridText M a0_0 a0_1 a0_2).snd.fst (c1_laws_FnExactGridText M a0_0 a0_1 a0_2).snd.snd
def F_laws_FnExactGridText (r : Bool) : AS.Ty (.cons (.one .bool) .nil) × List CS := ((r, ()), [])
def p_laws_FnExactGridText (M : FOps) (a0_0 : Int) (a0_1 : Int) (a0_2 : (List Nat)) : Bool :=
  (bif decide ((c0_laws_FnExactGridText M a0_0 a0_1 a0_2) < 0) then true else (bif !(c2_laws_FnExactGridText M a0_0 a0_1 a0_2).fst.toList == (c3_laws_FnExactGridText M a0_0 a0_1 a0_2).fst.toList then false else (bif (c2_laws_FnExactGridText M a0_0 a0_1 a0_2).snd != (c3_laws_FnExactGridText M a0_0 a0_1 a0_2).snd then false else (bif !p_laws_eqGrid M (c1_laws_FnExactGridText M a0_0 a0_1 a0_2).fst (c1_laws_FnExactGridText M a0_0 a0_1 a0_2).snd.fst (c1_laws_FnExactGridText M a0_0 a0_1 a0_2).snd.snd (c1_laws_FnExactGridText M a0_0 a0_1 a0_2).fst (c1_laws_FnExactGridText M a0_0 a0_1 a0_2).snd.fst (c1_laws_FnExactGridText M a0_0 a0_1 a0_2).snd.snd then false else true))))
def r_laws_FnExactGridText (M : FOps) (a0_0 : Int) (a0_1 : Int) (a0_2 : (List Nat)) : Bool :=
  (bif decide ((c0_laws_FnExactGridText M a0_0 a0_1 a0_2) < 0) then true else ((r_laws_toGrid M a0_0 a0_1 a0_2) && ((r_spec_GridText M (c1_laws_FnExactGridText M a0_0 a0_1 a0_2).fst (c1_laws_FnExactGridText M a0_0 a0_1 a0_2).snd.fst (c1_laws_FnExactGridText M a0_0 a0_1 a0_2).snd.snd) && ((r_laws_toGrid M a0_0 a0_1 a0_2) && ((r_impl_GridText M (c1_laws_FnExactGridText M a0_0 a0_1 a0_2).fst (c1_laws_FnExactGridText M a0_0 a0_1 a0_2).snd.fst (c1_laws_FnExactGridText M a0_0 a0_1 a0_2).snd.snd) && (bif !(c2_laws_FnExactGridText M a0_0 a0_1 a0_2).fst.toList == (c3_laws_FnExactGridText M a0_0 a0_1 a0_2).fst.toList then true else (bif (c2_laws_FnExactGridText M a0_0 a0_1 a0_2).snd != (c3_laws_FnExactGridText M a0_0 a0_1 a0_2).snd then true else ((r_laws_toGrid M a0_0 a0_1 a0_2) && ((r_laws_eqGrid M (c1_laws_FnExactGridText M a0_0 a0_1 a0_2).fst (c1_laws_FnExactGridText M a0_0 a0_1 a0_2).snd.fst (c1_laws_FnExactGridText M a0_0 a0_1 a0_2).snd.snd (c1_laws_FnExactGridText M a0_0 a0_1 a0_2).fst (c1_laws_FnExactGridText M a0_0 a0_1 a0_2).snd.fst (c1_laws_FnExactGridText M a0_0 a0_1 a0_2).snd.snd) && true)))))))))
def S_laws_FnExactGridText (M : FOps) : FSpec := mkSpec (.cons (.agg (.pair (.int .i64) (.pair (.int .i64) (.ls (.fl .f32))))) .nil) (.cons (.one .bool) .nil) (fun x => r_laws_FnExactGridText M x.1.1 x.1.2.1 x.1.2.2) (fun x => F_laws_FnExactGridText (p_laws_FnExactGridText M x.1.1 x.1.2.1 x.1.2.2))

end
end Go.Dv
