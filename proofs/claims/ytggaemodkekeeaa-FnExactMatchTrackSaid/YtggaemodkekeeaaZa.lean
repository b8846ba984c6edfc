/- Printed by gen2.py. -/
import Derived.Test.YtggaemodkekeeaaWa
import Derived.Test.YtggaemodkekeeaaYb

set_option linter.unusedVariables false
set_option linter.unusedSimpArgs false

-- GENERATED BELOW (gen.py)
namespace Go.Proofs.Ytggaemodkekeeaa
open Go Go.Cv Go.Dv
set_option maxRecDepth 100000 in
theorem hs_impl_areFinite_w_0 (M : FOps) (v0 : (List Nat)) (v1 : Int) (v2 : Int) (v3 : Bool) : cwp M Try.prog (envOf [(108, S_impl_IsFinite M)]) (lamOf []) 40 ((loopsOf (Try.f98.body.getD .skip)).getD 0 .skip) 1 (stepK (.cons (.tv 5 true (.ls (.fl .f32))) (.cons (.tv 6 false (.int .i64)) (.cons (.tv 7 false (.int .i64)) (.cons (.tv 2 false .bool) .nil)))) [(.ret, (.cons (.tv 2 false .bool) .nil)), ((.exit 0), (.cons (.tv 2 false .bool) .nil))]) (canon (.cons (.tv 5 true (.ls (.fl .f32))) (.cons (.tv 6 false (.int .i64)) (.cons (.tv 7 false (.int .i64)) (.cons (.tv 2 false .bool) .nil)))) 0 0 (v0, (v1, (v2, (v3, ()))))) = st_impl_areFinite_w_0 M v0 v1 v2 v3 := by
  unfold st_impl_areFinite_w_0
  kernel_rfl
set_option maxRecDepth 100000 in
theorem lk_impl_areFinite_w_0 : LOk Try.prog Try.f98.ntmps ((loopsOf (Try.f98.body.getD .skip)).getD 0 .skip) (L_impl_areFinite_w_0 R) :=
  lok (F := 40) (Λ := lamOf []) (b := 1) (good_cons ok_impl_IsFinite good_nil) follows (by kernel_rfl) (fun _ _ _ _ h => nomatch h) (by decide) (by decide) (by decide) (fun x => hs_impl_areFinite_w_0 R x.1 x.2.1 x.2.2.1 x.2.2.2.1)
set_option maxRecDepth 100000 in
theorem e_impl_areFinite_w (M : FOps) (a0 : (List Nat)) (h : r_impl_areFinite_w M a0 = true) : cwp M Try.prog (envOf [(108, S_impl_IsFinite M)]) (lamOf [(0, L_impl_areFinite_w_0 M)]) 40 (Try.f98.body.getD .skip) 0 (retK Try.prog Try.f98.results.toList (.cons (.one .bool) .nil) 0) (initSt (.cons (.one (.ls (.fl .f32))) .nil) (a0, ())) = some (F_impl_areFinite_w (p_impl_areFinite_w M a0)) := 
  Eq.trans (b := (brT ((c0_impl_areFinite_w M a0).isSome) (brT (isL ((c0_impl_areFinite_w M a0).getD (Sum.inl (false, ())))) (some (F_impl_areFinite_w ((getL (false, ()) ((c0_impl_areFinite_w M a0).getD (Sum.inl (false, ())))).1))) (some (F_impl_areFinite_w (true)))) none)) (by kernel_rfl)
    ((pushL (fun _ => (push2 rfl rfl))) h)
theorem ok_impl_areFinite_w : OkFn Try.prog 98 (S_impl_areFinite_w R) :=
  okFn_of (good_cons ok_impl_IsFinite good_nil) follows Try.func98 rfl (by decide) (by decide) (lam_cons (i := 0) (cc := (loopsOf (Try.f98.body.getD .skip)).getD 0 .skip) (by kernel_rfl) lk_impl_areFinite_w_0 lam_nil) (m := 1) (fun _ => rfl) (by decide) (fun _ _ h => nomatch h) (fun _ _ h => nomatch h) (fun x hx => ⟨40, e_impl_areFinite_w R x.1 hx⟩)

set_option maxRecDepth 100000 in
theorem e_impl_areValid_1 (M : FOps) (a0_0 : Nat) (a0_1 : Nat) : cwp M Try.prog (envOf [(76, S_impl_ValidPlace M)]) (lamOf []) 40 (Try.f75.body.getD .skip) 0 (retK Try.prog Try.f75.results.toList (.cons (.one .bool) .nil) 0) (initSt (.cons (.agg (.pair (.fl .f32) (.fl .f32))) .nil) ((a0_0, a0_1), ())) = some (F_impl_areValid_1 (p_impl_areValid_1 M a0_0 a0_1)) := by kernel_rfl
theorem ok_impl_areValid_1 : OkFn Try.prog 75 (S_impl_areValid_1 R) :=
  okFn_of (good_cons ok_impl_ValidPlace good_nil) follows Try.func75 rfl (by decide) (by decide) lam_nil (m := 1) (fun _ => rfl) (by decide) (fun _ _ h => nomatch h) (fun _ _ h => nomatch h) (fun x _ => ⟨40, e_impl_areValid_1 R x.1.1 x.1.2⟩)

set_option maxRecDepth 100000 in
theorem hs_slices_IndexFunc_impl_Place_impl_Place_0 (M : FOps) (v0 : (List (Nat × Nat))) (v1 : Int) (v2 : Int) (v3 : Int) : cwp M Try.prog (envOf [(75, S_impl_areValid_1 M)]) (lamOf []) 40 ((loopsOf (Try.f92.body.getD .skip)).getD 0 .skip) 1 (stepK (.cons (.tv 0 true (.ls (.pair (.fl .f32) (.fl .f32)))) (.cons (.tf 1 75) (.cons (.tv 7 false (.int .i64)) (.cons (.tv 8 false (.int .i64)) (.cons (.tv 4 false (.int .i64)) .nil))))) [(.ret, (.cons (.tv 4 false (.int .i64)) .nil)), ((.exit 0), (.cons (.tv 4 false (.int .i64)) .nil))]) (canon (.cons (.tv 0 true (.ls (.pair (.fl .f32) (.fl .f32)))) (.cons (.tf 1 75) (.cons (.tv 7 false (.int .i64)) (.cons (.tv 8 false (.int .i64)) (.cons (.tv 4 false (.int .i64)) .nil))))) 0 0 (v0, ((), (v1, (v2, (v3, ())))))) = st_slices_IndexFunc_impl_Place_impl_Place_0 M v0 v1 v2 v3 := by
  unfold st_slices_IndexFunc_impl_Place_impl_Place_0
  kernel_rfl
set_option maxRecDepth 100000 in
theorem lk_slices_IndexFunc_impl_Place_impl_Place_0 : LOk Try.prog Try.f92.ntmps ((loopsOf (Try.f92.body.getD .skip)).getD 0 .skip) (L_slices_IndexFunc_impl_Place_impl_Place_0 R) :=
  lok (F := 40) (Λ := lamOf []) (b := 1) (good_cons ok_impl_areValid_1 good_nil) follows (by kernel_rfl) (fun _ _ _ _ h => nomatch h) (by decide) (by decide) (by decide) (fun x => hs_slices_IndexFunc_impl_Place_impl_Place_0 R x.1 x.2.2.1 x.2.2.2.1 x.2.2.2.2.1)
set_option maxRecDepth 100000 in
theorem e_slices_IndexFunc_impl_Place_impl_Place (M : FOps) (a0 : (List (Nat × Nat))) (h : r_slices_IndexFunc_impl_Place_impl_Place M a0 = true) : cwp M Try.prog (envOf [(75, S_impl_areValid_1 M)]) (lamOf [(0, L_slices_IndexFunc_impl_Place_impl_Place_0 M)]) 40 (Try.f92.body.getD .skip) 0 (retK Try.prog Try.f92.results.toList (.cons (.one (.int .i64)) .nil) 0) (initSt (.cons (.one (.ls (.pair (.fl .f32) (.fl .f32)))) (.cons (.fn 75 .nil) .nil)) (a0, ((), ()))) = some (F_slices_IndexFunc_impl_Place_impl_Place (p_slices_IndexFunc_impl_Place_impl_Place M a0)) := 
  Eq.trans (b := (brT ((c0_slices_IndexFunc_impl_Place_impl_Place M a0).isSome) (brT (isL ((c0_slices_IndexFunc_impl_Place_impl_Place M a0).getD (Sum.inl (0, ())))) (some (F_slices_IndexFunc_impl_Place_impl_Place ((getL (0, ()) ((c0_slices_IndexFunc_impl_Place_impl_Place M a0).getD (Sum.inl (0, ())))).1))) (some (F_slices_IndexFunc_impl_Place_impl_Place (Int.negSucc 0)))) none)) (by kernel_rfl)
    ((pushL (fun _ => (push2 rfl rfl))) h)
theorem ok_slices_IndexFunc_impl_Place_impl_Place : OkFn Try.prog 92 (S_slices_IndexFunc_impl_Place_impl_Place R) :=
  okFn_of (good_cons ok_impl_areValid_1 good_nil) follows Try.func92 rfl (by decide) (by decide) (lam_cons (i := 0) (cc := (loopsOf (Try.f92.body.getD .skip)).getD 0 .skip) (by kernel_rfl) lk_slices_IndexFunc_impl_Place_impl_Place_0 lam_nil) (m := 2) (fun _ => rfl) (by decide) (fun _ _ h => nomatch h) (fun _ _ h => nomatch h) (fun x hx => ⟨40, e_slices_IndexFunc_impl_Place_impl_Place R x.1 hx⟩)

set_option maxRecDepth 100000 in
theorem e_slices_ContainsFunc_impl_Place_impl_Place (M : FOps) (a0 : (List (Nat × Nat))) (h : r_slices_ContainsFunc_impl_Place_impl_Place M a0 = true) : cwp M Try.prog (envOf [(75, S_impl_areValid_1 M), (92, S_slices_IndexFunc_impl_Place_impl_Place M)]) (lamOf []) 40 (Try.f74.body.getD .skip) 0 (retK Try.prog Try.f74.results.toList (.cons (.one .bool) .nil) 0) (initSt (.cons (.one (.ls (.pair (.fl .f32) (.fl .f32)))) (.cons (.fn 75 .nil) .nil)) (a0, ((), ()))) = some (F_slices_ContainsFunc_impl_Place_impl_Place (p_slices_ContainsFunc_impl_Place_impl_Place M a0)) := 
  Eq.trans (b := (brT (r_slices_IndexFunc_impl_Place_impl_Place M a0) (some (F_slices_ContainsFunc_impl_Place_impl_Place (decide ((c0_slices_ContainsFunc_impl_Place_impl_Place M a0) ≥ 0)))) none)) (by kernel_rfl)
    ((pushL (fun _ => rfl)) h)
theorem ok_slices_ContainsFunc_impl_Place_impl_Place : OkFn Try.prog 74 (S_slices_ContainsFunc_impl_Place_impl_Place R) :=
  okFn_of (good_cons ok_impl_areValid_1 (good_cons ok_slices_IndexFunc_impl_Place_impl_Place good_nil)) follows Try.func74 rfl (by decide) (by decide) lam_nil (m := 2) (fun _ => rfl) (by decide) (fun _ _ h => nomatch h) (fun _ _ h => nomatch h) (fun x hx => ⟨40, e_slices_ContainsFunc_impl_Place_impl_Place R x.1 hx⟩)

set_option maxRecDepth 100000 in
theorem e_impl_areValid_w (M : FOps) (a0 : (List (Nat × Nat))) (h : r_impl_areValid_w M a0 = true) : cwp M Try.prog (envOf [(74, S_slices_ContainsFunc_impl_Place_impl_Place M), (75, S_impl_areValid_1 M)]) (lamOf []) 40 (Try.f56.body.getD .skip) 0 (retK Try.prog Try.f56.results.toList (.cons (.one .bool) .nil) 0) (initSt (.cons (.one (.ls (.pair (.fl .f32) (.fl .f32)))) .nil) (a0, ())) = some (F_impl_areValid_w (p_impl_areValid_w M a0)) := 
  Eq.trans (b := (brT (r_slices_ContainsFunc_impl_Place_impl_Place M a0) (some (F_impl_areValid_w (!p_slices_ContainsFunc_impl_Place_impl_Place M a0))) none)) (by kernel_rfl)
    ((pushL (fun _ => rfl)) h)
theorem ok_impl_areValid_w : OkFn Try.prog 56 (S_impl_areValid_w R) :=
  okFn_of (good_cons ok_slices_ContainsFunc_impl_Place_impl_Place (good_cons ok_impl_areValid_1 good_nil)) follows Try.func56 rfl (by decide) (by decide) lam_nil (m := 1) (fun _ => rfl) (by decide) (fun _ _ h => nomatch h) (fun _ _ h => nomatch h) (fun x hx => ⟨40, e_impl_areValid_w R x.1 hx⟩)

set_option maxRecDepth 100000 in
theorem e_impl_length_impl_Place (M : FOps) (a0 : (List (Nat × Nat))) : cwp M Try.prog (envOf []) (lamOf []) 40 (Try.f53.body.getD .skip) 0 (retK Try.prog Try.f53.results.toList (.cons (.one (.int .i64)) .nil) 0) (initSt (.cons (.one (.ls (.pair (.fl .f32) (.fl .f32)))) .nil) (a0, ())) = some (F_impl_length_impl_Place (p_impl_length_impl_Place M a0)) := by kernel_rfl
theorem ok_impl_length_impl_Place : OkFn Try.prog 53 (S_impl_length_impl_Place R) :=
  okFn_of good_nil follows Try.func53 rfl (by decide) (by decide) lam_nil (m := 1) (fun _ => rfl) (by decide) (fun _ _ h => nomatch h) (fun _ _ h => nomatch h) (fun x _ => ⟨40, e_impl_length_impl_Place R x.1⟩)

set_option maxRecDepth 100000 in
theorem hs_spec_l02Are_w_0 (M : FOps) (v0 : (List (Nat × Nat))) (v1 : Int) (v2 : Bool) : cwp M Try.prog (envOf [(50, S_spec_l02Is M)]) (lamOf []) 40 ((loopsOf (Try.f27.body.getD .skip)).getD 0 .skip) 1 (stepK (.cons (.tv 0 true (.ls (.pair (.fl .f32) (.fl .f32)))) (.cons (.tv 3 false (.int .i64)) (.cons (.tv 2 false .bool) .nil))) [(.ret, (.cons (.tv 2 false .bool) .nil)), ((.exit 0), (.cons (.tv 0 true (.ls (.pair (.fl .f32) (.fl .f32)))) (.cons (.tv 2 false .bool) .nil)))]) (canon (.cons (.tv 0 true (.ls (.pair (.fl .f32) (.fl .f32)))) (.cons (.tv 3 false (.int .i64)) (.cons (.tv 2 false .bool) .nil))) 0 0 (v0, (v1, (v2, ())))) = st_spec_l02Are_w_0 M v0 v1 v2 := by
  unfold st_spec_l02Are_w_0
  kernel_rfl
set_option maxRecDepth 100000 in
theorem lk_spec_l02Are_w_0 : LOk Try.prog Try.f27.ntmps ((loopsOf (Try.f27.body.getD .skip)).getD 0 .skip) (L_spec_l02Are_w_0 R) :=
  lok (F := 40) (Λ := lamOf []) (b := 1) (good_cons ok_spec_l02Is good_nil) follows (by kernel_rfl) (fun _ _ _ _ h => nomatch h) (by decide) (by decide) (by decide) (fun x => hs_spec_l02Are_w_0 R x.1 x.2.1 x.2.2.1)
set_option maxRecDepth 100000 in
theorem e_spec_l02Are_w (M : FOps) (a0 : (List (Nat × Nat))) (h : r_spec_l02Are_w M a0 = true) : cwp M Try.prog (envOf [(50, S_spec_l02Is M)]) (lamOf [(0, L_spec_l02Are_w_0 M)]) 40 (Try.f27.body.getD .skip) 0 (retK Try.prog Try.f27.results.toList (.cons (.one .bool) .nil) 0) (initSt (.cons (.one (.ls (.pair (.fl .f32) (.fl .f32)))) .nil) (a0, ())) = some (F_spec_l02Are_w (p_spec_l02Are_w M a0)) := 
  Eq.trans (b := (brT ((c0_spec_l02Are_w M a0).isSome) (brT (isL ((c0_spec_l02Are_w M a0).getD (Sum.inl (false, ())))) (some (F_spec_l02Are_w ((getL (false, ()) ((c0_spec_l02Are_w M a0).getD (Sum.inl (false, ())))).1))) (brT (decide ((↑(List.length (getR ([], false, ()) ((c0_spec_l02Are_w M a0).getD (Sum.inl (false, ())))).1) : Int) ≥ 1)) (some (F_spec_l02Are_w (decide ((↑(List.length (getR ([], false, ()) ((c0_spec_l02Are_w M a0).getD (Sum.inl (false, ())))).1) : Int) ≤ 64)))) (some (F_spec_l02Are_w (false))))) none)) (by kernel_rfl)
    ((pushL (fun _ => (push2 rfl (push2 rfl rfl)))) h)
theorem ok_spec_l02Are_w : OkFn Try.prog 27 (S_spec_l02Are_w R) :=
  okFn_of (good_cons ok_spec_l02Is good_nil) follows Try.func27 rfl (by decide) (by decide) (lam_cons (i := 0) (cc := (loopsOf (Try.f27.body.getD .skip)).getD 0 .skip) (by kernel_rfl) lk_spec_l02Are_w_0 lam_nil) (m := 1) (fun _ => rfl) (by decide) (fun _ _ h => nomatch h) (fun _ _ h => nomatch h) (fun x hx => ⟨40, e_spec_l02Are_w R x.1 hx⟩)

end Go.Proofs.Ytggaemodkekeeaa
