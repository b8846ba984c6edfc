/- Printed by gen2.py. -/
import Derived.Test.YtbgpobiaaebbeaaDoorWt
import Derived.Test.YtbgpobiaaebbeaaDoorYa

set_option linter.unusedVariables false
set_option linter.unusedSimpArgs false

-- GENERATED BELOW (gen.py)
namespace Go.Proofs.YtbgpobiaaebbeaaDoor
open Go Go.Cv Go.Dv
set_option maxRecDepth 100000 in
theorem hs_laws_eqPlaceS_w_0 (M : FOps) (v0 : (List (Nat × Nat))) (v1 : (List (Nat × Nat))) (v2 : Int) (v3 : Bool) : cwp M Tryd.prog (envOf [(49, S_laws_eqPlace M)]) (lamOf []) 40 ((loopsOf (Tryd.f19.body.getD .skip)).getD 0 .skip) 1 (stepK (.cons (.tv 0 true (.ls (.pair (.fl .f32) (.fl .f32)))) (.cons (.tv 1 true (.ls (.pair (.fl .f32) (.fl .f32)))) (.cons (.tv 5 false (.int .i64)) (.cons (.tv 4 false .bool) .nil)))) [(.ret, (.cons (.tv 4 false .bool) .nil)), ((.exit 0), (.cons (.tv 4 false .bool) .nil))]) (canon (.cons (.tv 0 true (.ls (.pair (.fl .f32) (.fl .f32)))) (.cons (.tv 1 true (.ls (.pair (.fl .f32) (.fl .f32)))) (.cons (.tv 5 false (.int .i64)) (.cons (.tv 4 false .bool) .nil)))) 0 0 (v0, (v1, (v2, (v3, ()))))) = st_laws_eqPlaceS_w_0 M v0 v1 v2 v3 := by
  unfold st_laws_eqPlaceS_w_0
  kernel_rfl
set_option maxRecDepth 100000 in
theorem lk_laws_eqPlaceS_w_0 : LOk Tryd.prog Tryd.f19.ntmps ((loopsOf (Tryd.f19.body.getD .skip)).getD 0 .skip) (L_laws_eqPlaceS_w_0 R) :=
  lok (F := 40) (Λ := lamOf []) (b := 1) (good_cons ok_laws_eqPlace good_nil) follows (by kernel_rfl) (fun _ _ _ _ h => nomatch h) (by decide) (by decide) (by decide) (fun x => hs_laws_eqPlaceS_w_0 R x.1 x.2.1 x.2.2.1 x.2.2.2.1)
set_option maxRecDepth 100000 in
theorem e_laws_eqPlaceS_w (M : FOps) (a0 : (List (Nat × Nat))) (a1 : (List (Nat × Nat))) (h : r_laws_eqPlaceS_w M a0 a1 = true) : cwp M Tryd.prog (envOf [(49, S_laws_eqPlace M)]) (lamOf [(0, L_laws_eqPlaceS_w_0 M)]) 40 (Tryd.f19.body.getD .skip) 0 (retK Tryd.prog Tryd.f19.results.toList (.cons (.one .bool) .nil) 0) (initSt (.cons (.one (.ls (.pair (.fl .f32) (.fl .f32)))) (.cons (.one (.ls (.pair (.fl .f32) (.fl .f32)))) .nil)) (a0, (a1, ()))) = some (F_laws_eqPlaceS_w (p_laws_eqPlaceS_w M a0 a1)) := 
  Eq.trans (b := (brT ((↑a0.length : Int) != (↑a1.length : Int)) (some (F_laws_eqPlaceS_w (false))) (brT ((c0_laws_eqPlaceS_w M a0 a1).isSome) (brT (isL ((c0_laws_eqPlaceS_w M a0 a1).getD (Sum.inl (false, ())))) (some (F_laws_eqPlaceS_w ((getL (false, ()) ((c0_laws_eqPlaceS_w M a0 a1).getD (Sum.inl (false, ())))).fst))) (some (F_laws_eqPlaceS_w (true)))) none))) (by kernel_rfl)
    ((pushR (fun _ => rfl) (pushL (fun _ => (push2 rfl rfl)))) h)
theorem ok_laws_eqPlaceS_w : OkFn Tryd.prog 19 (S_laws_eqPlaceS_w R) :=
  okFn_of (good_cons ok_laws_eqPlace good_nil) follows Tryd.func19 rfl (by decide) (by decide) (lam_cons (i := 0) (cc := (loopsOf (Tryd.f19.body.getD .skip)).getD 0 .skip) (by kernel_rfl) lk_laws_eqPlaceS_w_0 lam_nil) (m := 2) (fun _ => rfl) (by decide) (fun _ _ h => nomatch h) (fun _ _ h => nomatch h) (fun x hx => ⟨40, e_laws_eqPlaceS_w R x.1 x.2.1 hx⟩)

end Go.Proofs.YtbgpobiaaebbeaaDoor
