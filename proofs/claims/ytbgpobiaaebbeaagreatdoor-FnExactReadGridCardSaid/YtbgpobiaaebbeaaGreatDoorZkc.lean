/- Printed by gen2.py. -/
import Derived.Test.YtbgpobiaaebbeaaGreatDoorWkc
import Derived.Test.YtbgpobiaaebbeaaGreatDoorZkb
import Derived.Test.YtbgpobiaaebbeaaGreatDoorWa
import Derived.Test.YtbgpobiaaebbeaaGreatDoorYd
import Derived.Test.YtbgpobiaaebbeaaGreatDoorYm
import Derived.Test.YtbgpobiaaebbeaaGreatDoorQa
import Derived.Test.YtbgpobiaaebbeaaGreatDoorYa
import Derived.Test.YtbgpobiaaebbeaaGreatDoorLo

set_option linter.unusedVariables false
set_option linter.unusedSimpArgs false

-- GENERATED BELOW (gen.py)
namespace Go.Proofs.YtbgpobiaaebbeaaGreatDoor
open Go Go.Cv Go.Dv
set_option maxRecDepth 100000 in
theorem e_spec_l00In (M : FOps) (a0 : Int) (a1 : Int) (a2 : Int) : cwp M Tryz.prog (envOf []) (lamOf []) 40 (Tryz.f44.body.getD .skip) 0 (retK Tryz.prog Tryz.f44.results.toList (.cons (.one .bool) .nil) 0) (initSt (.cons (.one (.int .i64)) (.cons (.one (.int .i64)) (.cons (.one (.int .i64)) .nil))) (a0, (a1, (a2, ())))) = some (F_spec_l00In (p_spec_l00In M a0 a1 a2)) := 
  Eq.trans (b := (brT (decide (a0 ≥ a1)) (some (F_spec_l00In (decide (a0 ≤ a2)))) (some (F_spec_l00In (false))))) (by kernel_rfl)
    ((push2 rfl rfl))
theorem ok_spec_l00In : OkFn Tryz.prog 44 (S_spec_l00In R) :=
  okFn_of good_nil follows Tryz.func44 rfl (by decide) (by decide) lam_nil (m := 3) (fun _ => rfl) (by decide) (fun _ _ h => nomatch h) (fun _ _ h => nomatch h) (fun x _ => ⟨40, e_spec_l00In R x.1 x.2.1 x.2.2.1⟩)

set_option maxRecDepth 100000 in
theorem e_spec_l06Sides (M : FOps) (a0 : Int) (a1 : Int) : cwp M Tryz.prog (envOf [(44, S_spec_l00In M)]) (lamOf []) 40 (Tryz.f47.body.getD .skip) 0 (retK Tryz.prog Tryz.f47.results.toList (.cons (.one .bool) .nil) 0) (initSt (.cons (.one (.int .i64)) (.cons (.one (.int .i64)) .nil)) (a0, (a1, ()))) = some (F_spec_l06Sides (p_spec_l06Sides M a0 a1)) := 
  Eq.trans (b := (brT (p_spec_l00In M a0 2 16) (some (F_spec_l06Sides (p_spec_l00In M a1 2 16))) (some (F_spec_l06Sides (false))))) (by kernel_rfl)
    ((push2 rfl rfl))
theorem ok_spec_l06Sides : OkFn Tryz.prog 47 (S_spec_l06Sides R) :=
  okFn_of (good_cons ok_spec_l00In good_nil) follows Tryz.func47 rfl (by decide) (by decide) lam_nil (m := 2) (fun _ => rfl) (by decide) (fun _ _ h => nomatch h) (fun _ _ h => nomatch h) (fun x _ => ⟨40, e_spec_l06Sides R x.1 x.2.1⟩)

set_option maxRecDepth 100000 in
theorem hs_spec_l02Finite_0 (M : FOps) (v0 : (List Nat)) (v1 : Int) (v2 : Bool) : cwp M Tryz.prog (envOf [(61, S_spec_l01Finite M)]) (lamOf []) 40 ((loopsOf (Tryz.f48.body.getD .skip)).getD 0 .skip) 1 (stepK (.cons (.tv 0 true (.ls (.fl .f32))) (.cons (.tv 3 false (.int .i64)) (.cons (.tv 2 false .bool) .nil))) [(.ret, (.cons (.tv 2 false .bool) .nil)), ((.exit 0), (.cons (.tv 2 false .bool) .nil))]) (canon (.cons (.tv 0 true (.ls (.fl .f32))) (.cons (.tv 3 false (.int .i64)) (.cons (.tv 2 false .bool) .nil))) 0 0 (v0, (v1, (v2, ())))) = st_spec_l02Finite_0 M v0 v1 v2 := by
  unfold st_spec_l02Finite_0
  kernel_rfl
set_option maxRecDepth 100000 in
theorem lk_spec_l02Finite_0 : LOk Tryz.prog Tryz.f48.ntmps ((loopsOf (Tryz.f48.body.getD .skip)).getD 0 .skip) (L_spec_l02Finite_0 R) :=
  lok (F := 40) (Λ := lamOf []) (b := 1) (good_cons ok_spec_l01Finite good_nil) follows (by kernel_rfl) (fun _ _ _ _ h => nomatch h) (by decide) (by decide) (by decide) (fun x => hs_spec_l02Finite_0 R x.1 x.2.1 x.2.2.1)
set_option maxRecDepth 100000 in
theorem e_spec_l02Finite (M : FOps) (a0 : (List Nat)) (h : r_spec_l02Finite M a0 = true) : cwp M Tryz.prog (envOf [(61, S_spec_l01Finite M)]) (lamOf [(0, L_spec_l02Finite_0 M)]) 40 (Tryz.f48.body.getD .skip) 0 (retK Tryz.prog Tryz.f48.results.toList (.cons (.one .bool) .nil) 0) (initSt (.cons (.one (.ls (.fl .f32))) .nil) (a0, ())) = some (F_spec_l02Finite (p_spec_l02Finite M a0)) := 
  Eq.trans (b := (brT ((c0_spec_l02Finite M a0).isSome) (brT (isL ((c0_spec_l02Finite M a0).getD (Sum.inl (false, ())))) (some (F_spec_l02Finite ((getL (false, ()) ((c0_spec_l02Finite M a0).getD (Sum.inl (false, ())))).fst))) (some (F_spec_l02Finite (true)))) none)) (by kernel_rfl)
    ((pushL (fun _ => (push2 rfl rfl))) h)
theorem ok_spec_l02Finite : OkFn Tryz.prog 48 (S_spec_l02Finite R) :=
  okFn_of (good_cons ok_spec_l01Finite good_nil) follows Tryz.func48 rfl (by decide) (by decide) (lam_cons (i := 0) (cc := (loopsOf (Tryz.f48.body.getD .skip)).getD 0 .skip) (by kernel_rfl) lk_spec_l02Finite_0 lam_nil) (m := 1) (fun _ => rfl) (by decide) (fun _ _ h => nomatch h) (fun _ _ h => nomatch h) (fun x hx => ⟨40, e_spec_l02Finite R x.1 hx⟩)

set_option maxRecDepth 100000 in
theorem e_spec_l06Is (M : FOps) (a0_0 : Int) (a0_1 : Int) (a0_2 : (List Nat)) (h : r_spec_l06Is M a0_0 a0_1 a0_2 = true) : cwp M Tryz.prog (envOf [(47, S_spec_l06Sides M), (48, S_spec_l02Finite M)]) (lamOf []) 40 (Tryz.f33.body.getD .skip) 0 (retK Tryz.prog Tryz.f33.results.toList (.cons (.one .bool) .nil) 0) (initSt (.cons (.ptr (.pair (.int .i64) (.pair (.int .i64) (.ls (.fl .f32))))) .nil) ((a0_0, (a0_1, a0_2)), ())) = some (F_spec_l06Is (p_spec_l06Is M a0_0 a0_1 a0_2)) := 
  Eq.trans (b := (brT (p_spec_l06Sides M a0_0 a0_1) (brT ((↑a0_2.length : Int) == IntKind.i64.wrap (a0_0 * a0_1)) (brT (r_spec_l02Finite M a0_2) (some (F_spec_l06Is (p_spec_l02Finite M a0_2))) none) (some (F_spec_l06Is (false)))) (some (F_spec_l06Is (false))))) (by kernel_rfl)
    ((pushR (pushR (pushL (fun _ => rfl)) (fun _ => rfl)) (fun _ => rfl)) h)
theorem ok_spec_l06Is : OkFn Tryz.prog 33 (S_spec_l06Is R) :=
  okFn_of (good_cons ok_spec_l06Sides (good_cons ok_spec_l02Finite good_nil)) follows Tryz.func33 rfl (by decide) (by decide) lam_nil (m := 1) (fun _ => rfl) (by decide) (fun _ _ h => nomatch h) (fun _ _ h => nomatch h) (fun x hx => ⟨40, e_spec_l06Is R x.1.1 x.1.2.1 x.1.2.2 hx⟩)

set_option maxRecDepth 100000 in
theorem e_impl_areSides (M : FOps) (a0 : Int) (a1 : Int) : cwp M Tryz.prog (envOf [(42, S_impl_within M)]) (lamOf []) 40 (Tryz.f26.body.getD .skip) 0 (retK Tryz.prog Tryz.f26.results.toList (.cons (.one .bool) .nil) 0) (initSt (.cons (.one (.int .i64)) (.cons (.one (.int .i64)) .nil)) (a0, (a1, ()))) = some (F_impl_areSides (p_impl_areSides M a0 a1)) := 
  Eq.trans (b := (brT (p_impl_within M a0 2 16) (some (F_impl_areSides (p_impl_within M a1 2 16))) (some (F_impl_areSides (false))))) (by kernel_rfl)
    ((push2 rfl rfl))
theorem ok_impl_areSides : OkFn Tryz.prog 26 (S_impl_areSides R) :=
  okFn_of (good_cons ok_impl_within good_nil) follows Tryz.func26 rfl (by decide) (by decide) lam_nil (m := 2) (fun _ => rfl) (by decide) (fun _ _ h => nomatch h) (fun _ _ h => nomatch h) (fun x _ => ⟨40, e_impl_areSides R x.1 x.2.1⟩)

set_option maxRecDepth 100000 in
theorem e_impl_length_float32 (M : FOps) (a0 : (List Nat)) : cwp M Tryz.prog (envOf []) (lamOf []) 40 (Tryz.f27.body.getD .skip) 0 (retK Tryz.prog Tryz.f27.results.toList (.cons (.one (.int .i64)) .nil) 0) (initSt (.cons (.one (.ls (.fl .f32))) .nil) (a0, ())) = some (F_impl_length_float32 (p_impl_length_float32 M a0)) := by kernel_rfl
theorem ok_impl_length_float32 : OkFn Tryz.prog 27 (S_impl_length_float32 R) :=
  okFn_of good_nil follows Tryz.func27 rfl (by decide) (by decide) lam_nil (m := 1) (fun _ => rfl) (by decide) (fun _ _ h => nomatch h) (fun _ _ h => nomatch h) (fun x _ => ⟨40, e_impl_length_float32 R x.1⟩)

set_option maxRecDepth 100000 in
theorem e_impl_ValidGrid (M : FOps) (a0_0 : Int) (a0_1 : Int) (a0_2 : (List Nat)) (h : r_impl_ValidGrid M a0_0 a0_1 a0_2 = true) : cwp M Tryz.prog (envOf [(26, S_impl_areSides M), (27, S_impl_length_float32 M), (28, S_impl_areFinite M)]) (lamOf []) 40 (Tryz.f13.body.getD .skip) 0 (retK Tryz.prog Tryz.f13.results.toList (.cons (.one .bool) .nil) 0) (initSt (.cons (.agg (.pair (.int .i64) (.pair (.int .i64) (.ls (.fl .f32))))) .nil) ((a0_0, (a0_1, a0_2)), ())) = some (F_impl_ValidGrid (p_impl_ValidGrid M a0_0 a0_1 a0_2)) := 
  Eq.trans (b := (brT (p_impl_areSides M a0_0 a0_1) (brT (p_impl_length_float32 M a0_2 == IntKind.i64.wrap (a0_0 * a0_1)) (brT (decide (a0_2.length < 4611686018427387904)) (some (F_impl_ValidGrid (a0_2.all fun x => p_impl_IsFinite M x))) none) (some (F_impl_ValidGrid (false)))) (some (F_impl_ValidGrid (false))))) (by kernel_rfl)
    ((pushR (pushR (pushL (fun _ => rfl)) (fun _ => rfl)) (fun _ => rfl)) h)
theorem ok_impl_ValidGrid : OkFn Tryz.prog 13 (S_impl_ValidGrid R) :=
  okFn_of (good_cons ok_impl_areSides (good_cons ok_impl_length_float32 (good_cons ok_impl_areFinite good_nil))) follows Tryz.func13 rfl (by decide) (by decide) lam_nil (m := 1) (fun _ => rfl) (by decide) (fun _ _ h => nomatch h) (fun _ _ h => nomatch h) (fun x hx => ⟨40, e_impl_ValidGrid R x.1.1 x.1.2.1 x.1.2.2 hx⟩)

set_option maxRecDepth 100000 in
theorem hs_spec_l01Dec_0 (M : FOps) (v0 : (List Int)) (v1 : Int) (v2 : Int) (v3 : ByteArray) : cwp M Tryz.prog (envOf []) (lamOf []) 40 ((loopsOf (Tryz.f45.body.getD .skip)).getD 0 .skip) 1 (stepK (.ren 3 0 (.cons (.to 3 0 (.int .u8)) (.cons (.tv 4 false (.int .i64)) (.cons (.tv 0 false (.int .i64)) (.cons (.tv 2 false .str) .nil))))) [((.exit 0), (.cons (.tv 0 false (.int .i64)) (.cons (.to 3 0 (.int .u8)) (.cons (.tv 2 false .str) .nil))))]) (canon (.ren 3 0 (.cons (.to 3 0 (.int .u8)) (.cons (.tv 4 false (.int .i64)) (.cons (.tv 0 false (.int .i64)) (.cons (.tv 2 false .str) .nil))))) 1 0 (v0, (v1, (v2, (v3, ()))))) = st_spec_l01Dec_0 M v0 v1 v2 v3 := by
  unfold st_spec_l01Dec_0
  kernel_rfl
set_option maxRecDepth 100000 in
theorem lk_spec_l01Dec_0 : LOk Tryz.prog Tryz.f45.ntmps ((loopsOf (Tryz.f45.body.getD .skip)).getD 0 .skip) (L_spec_l01Dec_0 R) :=
  lok (F := 40) (Λ := lamOf []) (b := 1) good_nil follows (by kernel_rfl) (fun _ _ _ _ h => nomatch h) (by decide) (by decide) (by decide) (fun x => hs_spec_l01Dec_0 R x.1 x.2.1 x.2.2.1 x.2.2.2.1)
set_option maxRecDepth 100000 in
theorem e_spec_l01Dec (M : FOps) (a0 : Int) (h : r_spec_l01Dec M a0 = true) : cwp M Tryz.prog (envOf []) (lamOf [(0, L_spec_l01Dec_0 M)]) 40 (Tryz.f45.body.getD .skip) 0 (retK Tryz.prog Tryz.f45.results.toList (.cons (.one .str) .nil) 0) (initSt (.cons (.one (.int .i64)) .nil) (a0, ())) = some (F_spec_l01Dec (p_spec_l01Dec M a0)) := 
  Eq.trans (b := (brT ((c0_spec_l01Dec M a0).isSome) (brT (decide (((c0_spec_l01Dec M a0).getD (0, [], { data := #[] }, ())).fst < 0)) (brT ((List.length ((c0_spec_l01Dec M a0).getD (0, [], { data := #[] }, ())).snd.fst).beq (List.length ((c0_spec_l01Dec M a0).getD (0, [], { data := #[] }, ())).snd.fst)) (brT ((1 + List.length ((c0_spec_l01Dec M a0).getD (0, [], { data := #[] }, ())).snd.fst).ble 1073741824) (brT (([45] ++ ((c0_spec_l01Dec M a0).getD (0, [], { data := #[] }, ())).snd.fst).length.beq ([45] ++ ((c0_spec_l01Dec M a0).getD (0, [], { data := #[] }, ())).snd.fst).length) (some (F_spec_l01Dec (p_bytes ([45] ++ ((c0_spec_l01Dec M a0).getD (0, [], { data := #[] }, ())).snd.fst)))) none) none) none) (brT ((List.length ((c0_spec_l01Dec M a0).getD (0, [], { data := #[] }, ())).snd.fst).beq (List.length ((c0_spec_l01Dec M a0).getD (0, [], { data := #[] }, ())).snd.fst)) (some (F_spec_l01Dec (p_bytes ((c0_spec_l01Dec M a0).getD (0, [], { data := #[] }, ())).snd.fst))) none)) none)) (by kernel_rfl)
    ((pushL (pushR (fun h => pushT beq_self_eq ((pushL (fun _ => (pushT beq_self_eq rfl))) h)) (fun _ => (pushT beq_self_eq rfl)))) h)
theorem ok_spec_l01Dec : OkFn Tryz.prog 45 (S_spec_l01Dec R) :=
  okFn_of good_nil follows Tryz.func45 rfl (by decide) (by decide) (lam_cons (i := 0) (cc := (loopsOf (Tryz.f45.body.getD .skip)).getD 0 .skip) (by kernel_rfl) lk_spec_l01Dec_0 lam_nil) (m := 1) (fun _ => rfl) (by decide) (fun _ _ h => nomatch h) (fun _ _ h => nomatch h) (fun x hx => ⟨40, e_spec_l01Dec R x.1 hx⟩)

set_option maxRecDepth 100000 in
theorem hs_laws_eqFloat32S_0 (M : FOps) (v0 : (List Nat)) (v1 : (List Nat)) (v2 : Int) (v3 : Bool) : cwp M Tryz.prog (envOf [(29, S_laws_sameFloat M)]) (lamOf []) 40 ((loopsOf (Tryz.f14.body.getD .skip)).getD 0 .skip) 1 (stepK (.cons (.tv 0 true (.ls (.fl .f32))) (.cons (.tv 1 true (.ls (.fl .f32))) (.cons (.tv 5 false (.int .i64)) (.cons (.tv 4 false .bool) .nil)))) [(.ret, (.cons (.tv 4 false .bool) .nil)), ((.exit 0), (.cons (.tv 4 false .bool) .nil))]) (canon (.cons (.tv 0 true (.ls (.fl .f32))) (.cons (.tv 1 true (.ls (.fl .f32))) (.cons (.tv 5 false (.int .i64)) (.cons (.tv 4 false .bool) .nil)))) 0 0 (v0, (v1, (v2, (v3, ()))))) = st_laws_eqFloat32S_0 M v0 v1 v2 v3 := by
  unfold st_laws_eqFloat32S_0
  kernel_rfl
set_option maxRecDepth 100000 in
theorem lk_laws_eqFloat32S_0 : LOk Tryz.prog Tryz.f14.ntmps ((loopsOf (Tryz.f14.body.getD .skip)).getD 0 .skip) (L_laws_eqFloat32S_0 R) :=
  lok (F := 40) (Λ := lamOf []) (b := 1) (good_cons ok_laws_sameFloat good_nil) follows (by kernel_rfl) (fun _ _ _ _ h => nomatch h) (by decide) (by decide) (by decide) (fun x => hs_laws_eqFloat32S_0 R x.1 x.2.1 x.2.2.1 x.2.2.2.1)
set_option maxRecDepth 100000 in
theorem e_laws_eqFloat32S (M : FOps) (a0 : (List Nat)) (a1 : (List Nat)) (h : r_laws_eqFloat32S M a0 a1 = true) : cwp M Tryz.prog (envOf [(29, S_laws_sameFloat M)]) (lamOf [(0, L_laws_eqFloat32S_0 M)]) 40 (Tryz.f14.body.getD .skip) 0 (retK Tryz.prog Tryz.f14.results.toList (.cons (.one .bool) .nil) 0) (initSt (.cons (.one (.ls (.fl .f32))) (.cons (.one (.ls (.fl .f32))) .nil)) (a0, (a1, ()))) = some (F_laws_eqFloat32S (p_laws_eqFloat32S M a0 a1)) := 
  Eq.trans (b := (brT ((↑a0.length : Int) != (↑a1.length : Int)) (some (F_laws_eqFloat32S (false))) (brT ((c0_laws_eqFloat32S M a0 a1).isSome) (brT (isL ((c0_laws_eqFloat32S M a0 a1).getD (Sum.inl (false, ())))) (some (F_laws_eqFloat32S ((getL (false, ()) ((c0_laws_eqFloat32S M a0 a1).getD (Sum.inl (false, ())))).fst))) (some (F_laws_eqFloat32S (true)))) none))) (by kernel_rfl)
    ((pushR (fun _ => rfl) (pushL (fun _ => (push2 rfl rfl)))) h)
theorem ok_laws_eqFloat32S : OkFn Tryz.prog 14 (S_laws_eqFloat32S R) :=
  okFn_of (good_cons ok_laws_sameFloat good_nil) follows Tryz.func14 rfl (by decide) (by decide) (lam_cons (i := 0) (cc := (loopsOf (Tryz.f14.body.getD .skip)).getD 0 .skip) (by kernel_rfl) lk_laws_eqFloat32S_0 lam_nil) (m := 2) (fun _ => rfl) (by decide) (fun _ _ h => nomatch h) (fun _ _ h => nomatch h) (fun x hx => ⟨40, e_laws_eqFloat32S R x.1 x.2.1 hx⟩)

set_option maxRecDepth 100000 in
theorem e_laws_eqGrid (M : FOps) (a0_0 : Int) (a0_1 : Int) (a0_2 : (List Nat)) (a1_0 : Int) (a1_1 : Int) (a1_2 : (List Nat)) (h : r_laws_eqGrid M a0_0 a0_1 a0_2 a1_0 a1_1 a1_2 = true) : cwp M Tryz.prog (envOf [(14, S_laws_eqFloat32S M)]) (lamOf []) 40 (Tryz.f6.body.getD .skip) 0 (retK Tryz.prog Tryz.f6.results.toList (.cons (.one .bool) .nil) 0) (initSt (.cons (.agg (.pair (.int .i64) (.pair (.int .i64) (.ls (.fl .f32))))) (.cons (.agg (.pair (.int .i64) (.pair (.int .i64) (.ls (.fl .f32))))) .nil)) ((a0_0, (a0_1, a0_2)), ((a1_0, (a1_1, a1_2)), ()))) = some (F_laws_eqGrid (p_laws_eqGrid M a0_0 a0_1 a0_2 a1_0 a1_1 a1_2)) := 
  Eq.trans (b := (brT (a0_0 != a1_0) (some (F_laws_eqGrid (false))) (brT (a0_1 != a1_1) (some (F_laws_eqGrid (false))) (brT (r_laws_eqFloat32S M a0_2 a1_2) (brT (!p_laws_eqFloat32S M a0_2 a1_2) (some (F_laws_eqGrid (false))) (some (F_laws_eqGrid (true)))) none)))) (by kernel_rfl)
    ((pushR (fun _ => rfl) (pushR (fun _ => rfl) (pushL (fun _ => (push2 rfl rfl))))) h)
theorem ok_laws_eqGrid : OkFn Tryz.prog 6 (S_laws_eqGrid R) :=
  okFn_of (good_cons ok_laws_eqFloat32S good_nil) follows Tryz.func6 rfl (by decide) (by decide) lam_nil (m := 2) (fun _ => rfl) (by decide) (fun _ _ h => nomatch h) (fun _ _ h => nomatch h) (fun x hx => ⟨40, e_laws_eqGrid R x.1.1 x.1.2.1 x.1.2.2 x.2.1.1 x.2.1.2.1 x.2.1.2.2 hx⟩)

end Go.Proofs.YtbgpobiaaebbeaaGreatDoor
