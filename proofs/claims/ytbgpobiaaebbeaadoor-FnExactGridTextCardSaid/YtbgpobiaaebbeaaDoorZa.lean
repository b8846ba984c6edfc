/- Printed by gen2.py. -/
import Derived.Test.YtbgpobiaaebbeaaDoorWa
import Derived.Test.YtbgpobiaaebbeaaDoorQb
import Derived.Test.YtbgpobiaaebbeaaDoorYa
set_option linter.unusedVariables false
set_option linter.unusedSimpArgs false

-- GENERATED BELOW (gen.py)
namespace Go.Proofs.YtbgpobiaaebbeaaDoor
open Go Go.Cv Go.Dv
set_option maxRecDepth 100000 in
theorem hs_impl_areFinite_w_0 (M : FOps) (v0 : (List Nat)) (v1 : Int) (v2 : Int) (v3 : Bool) : cwp M Tryd.prog (envOf [(121, S_impl_IsFinite M)]) (lamOf []) 40 ((loopsOf (Tryd.f82.body.getD .skip)).getD 0 .skip) 1 (stepK (.cons (.tv 5 true (.ls (.fl .f32))) (.cons (.tv 6 false (.int .i64)) (.cons (.tv 7 false (.int .i64)) (.cons (.tv 2 false .bool) .nil)))) [(.ret, (.cons (.tv 2 false .bool) .nil)), ((.exit 0), (.cons (.tv 2 false .bool) .nil))]) (canon (.cons (.tv 5 true (.ls (.fl .f32))) (.cons (.tv 6 false (.int .i64)) (.cons (.tv 7 false (.int .i64)) (.cons (.tv 2 false .bool) .nil)))) 0 0 (v0, (v1, (v2, (v3, ()))))) = st_impl_areFinite_w_0 M v0 v1 v2 v3 := by
  unfold st_impl_areFinite_w_0
  kernel_rfl
set_option maxRecDepth 100000 in
theorem lk_impl_areFinite_w_0 : LOk Tryd.prog Tryd.f82.ntmps ((loopsOf (Tryd.f82.body.getD .skip)).getD 0 .skip) (L_impl_areFinite_w_0 R) :=
  lok (F := 40) (Λ := lamOf []) (b := 1) (good_cons ok_impl_IsFinite good_nil) follows (by kernel_rfl) (fun _ _ _ _ h => nomatch h) (by decide) (by decide) (by decide) (fun x => hs_impl_areFinite_w_0 R x.1 x.2.1 x.2.2.1 x.2.2.2.1)
set_option maxRecDepth 100000 in
theorem e_impl_areFinite_w (M : FOps) (a0 : (List Nat)) (h : r_impl_areFinite_w M a0 = true) : cwp M Tryd.prog (envOf [(121, S_impl_IsFinite M)]) (lamOf [(0, L_impl_areFinite_w_0 M)]) 40 (Tryd.f82.body.getD .skip) 0 (retK Tryd.prog Tryd.f82.results.toList (.cons (.one .bool) .nil) 0) (initSt (.cons (.one (.ls (.fl .f32))) .nil) (a0, ())) = some (F_impl_areFinite_w (p_impl_areFinite_w M a0)) := 
  Eq.trans (b := (brT ((c0_impl_areFinite_w M a0).isSome) (brT (isL ((c0_impl_areFinite_w M a0).getD (Sum.inl (false, ())))) (some (F_impl_areFinite_w ((getL (false, ()) ((c0_impl_areFinite_w M a0).getD (Sum.inl (false, ())))).fst))) (some (F_impl_areFinite_w (true)))) none)) (by kernel_rfl)
    ((pushL (fun _ => (push2 rfl rfl))) h)
theorem ok_impl_areFinite_w : OkFn Tryd.prog 82 (S_impl_areFinite_w R) :=
  okFn_of (good_cons ok_impl_IsFinite good_nil) follows Tryd.func82 rfl (by decide) (by decide) (lam_cons (i := 0) (cc := (loopsOf (Tryd.f82.body.getD .skip)).getD 0 .skip) (by kernel_rfl) lk_impl_areFinite_w_0 lam_nil) (m := 1) (fun _ => rfl) (by decide) (fun _ _ h => nomatch h) (fun _ _ h => nomatch h) (fun x hx => ⟨40, e_impl_areFinite_w R x.1 hx⟩)

end Go.Proofs.YtbgpobiaaebbeaaDoor
