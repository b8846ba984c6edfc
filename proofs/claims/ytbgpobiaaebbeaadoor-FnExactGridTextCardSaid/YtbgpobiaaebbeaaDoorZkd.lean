/- Printed by gen2.py. -/
import Derived.Test.YtbgpobiaaebbeaaDoorWkd
import Derived.Test.YtbgpobiaaebbeaaDoorZkc
set_option linter.unusedVariables false
set_option linter.unusedSimpArgs false

-- GENERATED BELOW (gen.py)
namespace Go.Proofs.YtbgpobiaaebbeaaDoor
open Go Go.Cv Go.Dv
set_option maxRecDepth 100000 in
theorem e_laws_FnExactGridText (M : FOps) (a0_0 : Int) (a0_1 : Int) (a0_2 : (List Nat)) (h : r_laws_FnExactGridText M a0_0 a0_1 a0_2 = true) : cwp M Tryd.prog (envOf [(20, S_laws_szGrid M), (21, S_spec_GridText M), (22, S_laws_toGrid_fz M), (23, S_impl_GridText M), (24, S_laws_eqGrid M)]) (lamOf []) 40 (Tryd.f5.body.getD .skip) 0 (retK Tryd.prog Tryd.f5.results.toList (.cons (.one .bool) .nil) 0) (initSt (.cons (.agg (.pair (.int .i64) (.pair (.int .i64) (.ls (.fl .f32))))) .nil) ((a0_0, (a0_1, a0_2)), ())) = some (F_laws_FnExactGridText (p_laws_FnExactGridText M a0_0 a0_1 a0_2)) := 
  Eq.trans (b := (brT (decide ((c0_laws_FnExactGridText M a0_0 a0_1 a0_2) < 0)) (some (F_laws_FnExactGridText (true))) (brT (r_laws_toGrid M a0_0 a0_1 a0_2) (brT (r_spec_GridText M (c1_laws_FnExactGridText M a0_0 a0_1 a0_2).fst (c1_laws_FnExactGridText M a0_0 a0_1 a0_2).snd.fst (c1_laws_FnExactGridText M a0_0 a0_1 a0_2).snd.snd) (brT (r_laws_toGrid M a0_0 a0_1 a0_2) (brT (r_impl_GridText M (c1_laws_FnExactGridText M a0_0 a0_1 a0_2).fst (c1_laws_FnExactGridText M a0_0 a0_1 a0_2).snd.fst (c1_laws_FnExactGridText M a0_0 a0_1 a0_2).snd.snd) (brT (!(c2_laws_FnExactGridText M a0_0 a0_1 a0_2).fst.toList == (c3_laws_FnExactGridText M a0_0 a0_1 a0_2).fst.toList) (some (F_laws_FnExactGridText (false))) (brT ((c2_laws_FnExactGridText M a0_0 a0_1 a0_2).snd != (c3_laws_FnExactGridText M a0_0 a0_1 a0_2).snd) (some (F_laws_FnExactGridText (false))) (brT (r_laws_toGrid M a0_0 a0_1 a0_2) (brT (r_laws_eqGrid M (c1_laws_FnExactGridText M a0_0 a0_1 a0_2).fst (c1_laws_FnExactGridText M a0_0 a0_1 a0_2).snd.fst (c1_laws_FnExactGridText M a0_0 a0_1 a0_2).snd.snd (c1_laws_FnExactGridText M a0_0 a0_1 a0_2).fst (c1_laws_FnExactGridText M a0_0 a0_1 a0_2).snd.fst (c1_laws_FnExactGridText M a0_0 a0_1 a0_2).snd.snd) (brT (!p_laws_eqGrid M (c1_laws_FnExactGridText M a0_0 a0_1 a0_2).fst (c1_laws_FnExactGridText M a0_0 a0_1 a0_2).snd.fst (c1_laws_FnExactGridText M a0_0 a0_1 a0_2).snd.snd (c1_laws_FnExactGridText M a0_0 a0_1 a0_2).fst (c1_laws_FnExactGridText M a0_0 a0_1 a0_2).snd.fst (c1_laws_FnExactGridText M a0_0 a0_1 a0_2).snd.snd) (some (F_laws_FnExactGridText (false))) (some (F_laws_FnExactGridText (true)))) none) none))) none) none) none) none))) (by kernel_rfl)
    ((pushR (fun _ => rfl) (pushL (pushL (pushL (pushL (pushR (fun _ => rfl) (pushR (fun _ => rfl) (pushL (pushL (fun _ => (push2 rfl rfl))))))))))) h)
theorem ok_laws_FnExactGridText : OkFn Tryd.prog 5 (S_laws_FnExactGridText R) :=
  okFn_of (good_cons ok_laws_szGrid (good_cons ok_spec_GridText (good_cons ok_laws_toGrid_fz (good_cons ok_impl_GridText (good_cons ok_laws_eqGrid good_nil))))) follows Tryd.func5 rfl (by decide) (by decide) lam_nil (m := 1) (fun _ => rfl) (by decide) (fun _ _ h => nomatch h) (fun _ _ h => nomatch h) (fun x hx => ⟨40, e_laws_FnExactGridText R x.1.1 x.1.2.1 x.1.2.2 hx⟩)

end Go.Proofs.YtbgpobiaaebbeaaDoor
