/- Printed by gen2.py. -/
import Derived.Test.YtbgpobiaaebbeaaDoorWkc
import Derived.Test.YtbgpobiaaebbeaaDoorZkb
import Derived.Test.YtbgpobiaaebbeaaDoorWa
import Derived.Test.YtbgpobiaaebbeaaDoorYd
import Derived.Test.YtbgpobiaaebbeaaDoorQd
import Derived.Test.YtbgpobiaaebbeaaDoorNc
import Derived.Test.YtbgpobiaaebbeaaDoorQa
import Derived.Test.YtbgpobiaaebbeaaDoorYa
import Derived.Test.YtbgpobiaaebbeaaDoorLo
import Derived.Test.YtbgpobiaaebbeaaDoorZa
set_option linter.unusedVariables false
set_option linter.unusedSimpArgs false

-- GENERATED BELOW (gen.py)
namespace Go.Proofs.YtbgpobiaaebbeaaDoor
open Go Go.Cv Go.Dv
set_option maxRecDepth 100000 in
theorem e_spec_l00In (M : FOps) (a0 : Int) (a1 : Int) (a2 : Int) : cwp M Tryd.prog (envOf []) (lamOf []) 40 (Tryd.f119.body.getD .skip) 0 (retK Tryd.prog Tryd.f119.results.toList (.cons (.one .bool) .nil) 0) (initSt (.cons (.one (.int .i64)) (.cons (.one (.int .i64)) (.cons (.one (.int .i64)) .nil))) (a0, (a1, (a2, ())))) = some (F_spec_l00In (p_spec_l00In M a0 a1 a2)) := 
  Eq.trans (b := (brT (decide (a0 ≥ a1)) (some (F_spec_l00In (decide (a0 ≤ a2)))) (some (F_spec_l00In (false))))) (by kernel_rfl)
    ((push2 rfl rfl))
theorem ok_spec_l00In : OkFn Tryd.prog 119 (S_spec_l00In R) :=
  okFn_of good_nil follows Tryd.func119 rfl (by decide) (by decide) lam_nil (m := 3) (fun _ => rfl) (by decide) (fun _ _ h => nomatch h) (fun _ _ h => nomatch h) (fun x _ => ⟨40, e_spec_l00In R x.1 x.2.1 x.2.2.1⟩)

set_option maxRecDepth 100000 in
theorem e_laws_szFloat32S (M : FOps) (a0 : (List Nat)) (a1 : Int) : cwp M Tryd.prog (envOf []) (lamOf []) 40 (Tryd.f50.body.getD .skip) 0 (retK Tryd.prog Tryd.f50.results.toList (.cons (.one (.int .i64)) .nil) 0) (initSt (.cons (.one (.ls (.fl .f32))) (.cons (.one (.int .i64)) .nil)) (a0, (a1, ()))) = some (F_laws_szFloat32S (p_laws_szFloat32S M a0 a1)) := 
  Eq.trans (b := (brT (decide (IntKind.i64.wrap (a1 - (↑a0.length : Int)) < 0)) (some (F_laws_szFloat32S (Int.negSucc 0))) (some (F_laws_szFloat32S (IntKind.i64.wrap (a1 - (↑a0.length : Int))))))) (by kernel_rfl)
    ((push2 rfl rfl))
theorem ok_laws_szFloat32S : OkFn Tryd.prog 50 (S_laws_szFloat32S R) :=
  okFn_of good_nil follows Tryd.func50 rfl (by decide) (by decide) lam_nil (m := 2) (fun _ => rfl) (by decide) (fun _ _ h => nomatch h) (fun _ _ h => nomatch h) (fun x _ => ⟨40, e_laws_szFloat32S R x.1 x.2.1⟩)

set_option maxRecDepth 100000 in
theorem e_laws_szGrid (M : FOps) (a0_0 : Int) (a0_1 : Int) (a0_2 : (List Nat)) (a1 : Int) : cwp M Tryd.prog (envOf [(50, S_laws_szFloat32S M)]) (lamOf []) 40 (Tryd.f20.body.getD .skip) 0 (retK Tryd.prog Tryd.f20.results.toList (.cons (.one (.int .i64)) .nil) 0) (initSt (.cons (.agg (.pair (.int .i64) (.pair (.int .i64) (.ls (.fl .f32))))) (.cons (.one (.int .i64)) .nil)) ((a0_0, (a0_1, a0_2)), (a1, ()))) = some (F_laws_szGrid (p_laws_szGrid M a0_0 a0_1 a0_2 a1)) := 
  Eq.trans (b := (brT (decide ((c0_laws_szGrid M a0_0 a0_1 a0_2 a1) < 0)) (some (F_laws_szGrid (Int.negSucc 0))) (some (F_laws_szGrid ((c0_laws_szGrid M a0_0 a0_1 a0_2 a1)))))) (by kernel_rfl)
    ((push2 rfl rfl))
theorem ok_laws_szGrid : OkFn Tryd.prog 20 (S_laws_szGrid R) :=
  okFn_of (good_cons ok_laws_szFloat32S good_nil) follows Tryd.func20 rfl (by decide) (by decide) lam_nil (m := 2) (fun _ => rfl) (by decide) (fun _ _ h => nomatch h) (fun _ _ h => nomatch h) (fun x _ => ⟨40, e_laws_szGrid R x.1.1 x.1.2.1 x.1.2.2 x.2.1⟩)

set_option maxRecDepth 100000 in
theorem e_spec_l06Sides (M : FOps) (a0 : Int) (a1 : Int) : cwp M Tryd.prog (envOf [(119, S_spec_l00In M)]) (lamOf []) 40 (Tryd.f77.body.getD .skip) 0 (retK Tryd.prog Tryd.f77.results.toList (.cons (.one .bool) .nil) 0) (initSt (.cons (.one (.int .i64)) (.cons (.one (.int .i64)) .nil)) (a0, (a1, ()))) = some (F_spec_l06Sides (p_spec_l06Sides M a0 a1)) := 
  Eq.trans (b := (brT (p_spec_l00In M a0 2 16) (some (F_spec_l06Sides (p_spec_l00In M a1 2 16))) (some (F_spec_l06Sides (false))))) (by kernel_rfl)
    ((push2 rfl rfl))
theorem ok_spec_l06Sides : OkFn Tryd.prog 77 (S_spec_l06Sides R) :=
  okFn_of (good_cons ok_spec_l00In good_nil) follows Tryd.func77 rfl (by decide) (by decide) lam_nil (m := 2) (fun _ => rfl) (by decide) (fun _ _ h => nomatch h) (fun _ _ h => nomatch h) (fun x _ => ⟨40, e_spec_l06Sides R x.1 x.2.1⟩)

set_option maxRecDepth 100000 in
theorem hs_spec_l02Finite_0 (M : FOps) (v0 : (List Nat)) (v1 : Int) (v2 : Bool) : cwp M Tryd.prog (envOf [(120, S_spec_l01Finite M)]) (lamOf []) 40 ((loopsOf (Tryd.f78.body.getD .skip)).getD 0 .skip) 1 (stepK (.cons (.tv 0 true (.ls (.fl .f32))) (.cons (.tv 3 false (.int .i64)) (.cons (.tv 2 false .bool) .nil))) [(.ret, (.cons (.tv 2 false .bool) .nil)), ((.exit 0), (.cons (.tv 2 false .bool) .nil))]) (canon (.cons (.tv 0 true (.ls (.fl .f32))) (.cons (.tv 3 false (.int .i64)) (.cons (.tv 2 false .bool) .nil))) 0 0 (v0, (v1, (v2, ())))) = st_spec_l02Finite_0 M v0 v1 v2 := by
  unfold st_spec_l02Finite_0
  kernel_rfl
set_option maxRecDepth 100000 in
theorem lk_spec_l02Finite_0 : LOk Tryd.prog Tryd.f78.ntmps ((loopsOf (Tryd.f78.body.getD .skip)).getD 0 .skip) (L_spec_l02Finite_0 R) :=
  lok (F := 40) (Λ := lamOf []) (b := 1) (good_cons ok_spec_l01Finite good_nil) follows (by kernel_rfl) (fun _ _ _ _ h => nomatch h) (by decide) (by decide) (by decide) (fun x => hs_spec_l02Finite_0 R x.1 x.2.1 x.2.2.1)
set_option maxRecDepth 100000 in
theorem e_spec_l02Finite (M : FOps) (a0 : (List Nat)) (h : r_spec_l02Finite M a0 = true) : cwp M Tryd.prog (envOf [(120, S_spec_l01Finite M)]) (lamOf [(0, L_spec_l02Finite_0 M)]) 40 (Tryd.f78.body.getD .skip) 0 (retK Tryd.prog Tryd.f78.results.toList (.cons (.one .bool) .nil) 0) (initSt (.cons (.one (.ls (.fl .f32))) .nil) (a0, ())) = some (F_spec_l02Finite (p_spec_l02Finite M a0)) := 
  Eq.trans (b := (brT ((c0_spec_l02Finite M a0).isSome) (brT (isL ((c0_spec_l02Finite M a0).getD (Sum.inl (false, ())))) (some (F_spec_l02Finite ((getL (false, ()) ((c0_spec_l02Finite M a0).getD (Sum.inl (false, ())))).fst))) (some (F_spec_l02Finite (true)))) none)) (by kernel_rfl)
    ((pushL (fun _ => (push2 rfl rfl))) h)
theorem ok_spec_l02Finite : OkFn Tryd.prog 78 (S_spec_l02Finite R) :=
  okFn_of (good_cons ok_spec_l01Finite good_nil) follows Tryd.func78 rfl (by decide) (by decide) (lam_cons (i := 0) (cc := (loopsOf (Tryd.f78.body.getD .skip)).getD 0 .skip) (by kernel_rfl) lk_spec_l02Finite_0 lam_nil) (m := 1) (fun _ => rfl) (by decide) (fun _ _ h => nomatch h) (fun _ _ h => nomatch h) (fun x hx => ⟨40, e_spec_l02Finite R x.1 hx⟩)

set_option maxRecDepth 100000 in
theorem e_spec_l06Is (M : FOps) (a0_0 : Int) (a0_1 : Int) (a0_2 : (List Nat)) (h : r_spec_l06Is M a0_0 a0_1 a0_2 = true) : cwp M Tryd.prog (envOf [(77, S_spec_l06Sides M), (78, S_spec_l02Finite M)]) (lamOf []) 40 (Tryd.f51.body.getD .skip) 0 (retK Tryd.prog Tryd.f51.results.toList (.cons (.one .bool) .nil) 0) (initSt (.cons (.ptr (.pair (.int .i64) (.pair (.int .i64) (.ls (.fl .f32))))) .nil) ((a0_0, (a0_1, a0_2)), ())) = some (F_spec_l06Is (p_spec_l06Is M a0_0 a0_1 a0_2)) := 
  Eq.trans (b := (brT (p_spec_l06Sides M a0_0 a0_1) (brT ((↑a0_2.length : Int) == IntKind.i64.wrap (a0_0 * a0_1)) (brT (r_spec_l02Finite M a0_2) (some (F_spec_l06Is (p_spec_l02Finite M a0_2))) none) (some (F_spec_l06Is (false)))) (some (F_spec_l06Is (false))))) (by kernel_rfl)
    ((pushR (pushR (pushL (fun _ => rfl)) (fun _ => rfl)) (fun _ => rfl)) h)
theorem ok_spec_l06Is : OkFn Tryd.prog 51 (S_spec_l06Is R) :=
  okFn_of (good_cons ok_spec_l06Sides (good_cons ok_spec_l02Finite good_nil)) follows Tryd.func51 rfl (by decide) (by decide) lam_nil (m := 1) (fun _ => rfl) (by decide) (fun _ _ h => nomatch h) (fun _ _ h => nomatch h) (fun x hx => ⟨40, e_spec_l06Is R x.1.1 x.1.2.1 x.1.2.2 hx⟩)

set_option maxRecDepth 100000 in
theorem hs_laws_toFloat32S_0 (M : FOps) (v0 : (List Nat)) (v1 : (List Nat)) (v2 : Int) : cwp M Tryd.prog (envOf []) (lamOf []) 40 ((loopsOf (Tryd.f53.body.getD .skip)).getD 0 .skip) 1 (stepK (.cons (.tv 0 true (.ls (.fl .f32))) (.cons (.to 3 0 (.fl .f32)) (.cons (.tv 4 false (.int .i64)) (.cons (.tn 2) .nil)))) [((.exit 0), (.cons (.to 3 0 (.fl .f32)) (.cons (.tn 2) .nil)))]) (canon (.cons (.tv 0 true (.ls (.fl .f32))) (.cons (.to 3 0 (.fl .f32)) (.cons (.tv 4 false (.int .i64)) (.cons (.tn 2) .nil)))) 1 0 (v0, (v1, (v2, ((), ()))))) = st_laws_toFloat32S_0 M v0 v1 v2 := by
  unfold st_laws_toFloat32S_0
  kernel_rfl
set_option maxRecDepth 100000 in
theorem lk_laws_toFloat32S_0 : LOk Tryd.prog Tryd.f53.ntmps ((loopsOf (Tryd.f53.body.getD .skip)).getD 0 .skip) (L_laws_toFloat32S_0 R) :=
  lok (F := 40) (Λ := lamOf []) (b := 1) good_nil follows (by kernel_rfl) (fun _ _ _ _ h => nomatch h) (by decide) (by decide) (by decide) (fun x => hs_laws_toFloat32S_0 R x.1 x.2.1 x.2.2.1)
set_option maxRecDepth 100000 in
theorem e_laws_toFloat32S (M : FOps) (a0 : (List Nat)) (h : r_laws_toFloat32S M a0 = true) : cwp M Tryd.prog (envOf []) (lamOf [(0, L_laws_toFloat32S_0 M)]) 40 (Tryd.f53.body.getD .skip) 0 (retK Tryd.prog Tryd.f53.results.toList (.cons (.one (.ls (.fl .f32))) .nil) 0) (initSt (.cons (.one (.ls (.fl .f32))) .nil) (a0, ())) = some (F_laws_toFloat32S (p_laws_toFloat32S M a0)) := 
  Eq.trans (b := (brT (decide ((↑a0.length : Int) ≤ (↑a0.length : Int)) && decide ((↑a0.length : Int) ≤ Int.ofNat 1073741824)) (brT ((List.replicate (↑a0.length : Int).toNat 0).length.beq (List.replicate (↑a0.length : Int).toNat 0).length && true) (brT ((c0_laws_toFloat32S M a0).isSome) (brT ((List.length ((c0_laws_toFloat32S M a0).getD ([], (), ())).fst).beq (List.length ((c0_laws_toFloat32S M a0).getD ([], (), ())).fst) && true) (some (F_laws_toFloat32S (((c0_laws_toFloat32S M a0).getD ([], (), ())).fst))) none) none) none) none)) (by kernel_rfl)
    ((pushL (pushL (pushL (pushL (fun _ => rfl))))) h)
theorem ok_laws_toFloat32S : OkFn Tryd.prog 53 (S_laws_toFloat32S R) :=
  okFn_of good_nil follows Tryd.func53 rfl (by decide) (by decide) (lam_cons (i := 0) (cc := (loopsOf (Tryd.f53.body.getD .skip)).getD 0 .skip) (by kernel_rfl) lk_laws_toFloat32S_0 lam_nil) (m := 1) (fun _ => rfl) (by decide) (fun _ _ h => nomatch h) (fun y c h => by simp [encR, encC] at h; first | (subst h; exact ⟨_, _, rfl⟩) | (rcases h with rfl | rfl <;> exact ⟨_, _, rfl⟩) | (rcases h with rfl | rfl | rfl <;> exact ⟨_, _, rfl⟩)) (fun x hx => ⟨40, e_laws_toFloat32S R x.1 hx⟩)

set_option maxRecDepth 100000 in
theorem e_laws_toGrid (M : FOps) (a0_0 : Int) (a0_1 : Int) (a0_2 : (List Nat)) (h : r_laws_toGrid M a0_0 a0_1 a0_2 = true) : cwp M Tryd.prog (envOf [(53, S_laws_toFloat32S M)]) (lamOf []) 40 (Tryd.f22.body.getD .skip) 0 (retK Tryd.prog Tryd.f22.results.toList (.cons (.agg (.pair (.int .i64) (.pair (.int .i64) (.ls (.fl .f32))))) .nil) 0) (initSt (.cons (.agg (.pair (.int .i64) (.pair (.int .i64) (.ls (.fl .f32))))) .nil) ((a0_0, (a0_1, a0_2)), ())) = some (F_laws_toGrid (p_laws_toGrid M a0_0 a0_1 a0_2)) := 
  Eq.trans (b := (brT (r_laws_toFloat32S M a0_2) (brT ((c0_laws_toGrid M a0_0 a0_1 a0_2).length.beq (c0_laws_toGrid M a0_0 a0_1 a0_2).length && true) (some (F_laws_toGrid ((a0_0, a0_1, (c0_laws_toGrid M a0_0 a0_1 a0_2))))) none) none)) (by kernel_rfl)
    ((pushL (pushL (fun _ => rfl))) h)
theorem ok_laws_toGrid : OkFn Tryd.prog 22 (S_laws_toGrid R) :=
  okFn_of (good_cons ok_laws_toFloat32S good_nil) follows Tryd.func22 rfl (by decide) (by decide) lam_nil (m := 1) (fun _ => rfl) (by decide) (fun _ _ h => nomatch h) (fun y c h => by simp [encR, encC] at h; first | (subst h; exact ⟨_, _, rfl⟩) | (rcases h with rfl | rfl <;> exact ⟨_, _, rfl⟩) | (rcases h with rfl | rfl | rfl <;> exact ⟨_, _, rfl⟩)) (fun x hx => ⟨40, e_laws_toGrid R x.1.1 x.1.2.1 x.1.2.2 hx⟩)

set_option maxRecDepth 100000 in
theorem e_impl_areSides (M : FOps) (a0 : Int) (a1 : Int) : cwp M Tryd.prog (envOf [(67, S_impl_within M)]) (lamOf []) 40 (Tryd.f80.body.getD .skip) 0 (retK Tryd.prog Tryd.f80.results.toList (.cons (.one .bool) .nil) 0) (initSt (.cons (.one (.int .i64)) (.cons (.one (.int .i64)) .nil)) (a0, (a1, ()))) = some (F_impl_areSides (p_impl_areSides M a0 a1)) := 
  Eq.trans (b := (brT (p_impl_within M a0 2 16) (some (F_impl_areSides (p_impl_within M a1 2 16))) (some (F_impl_areSides (false))))) (by kernel_rfl)
    ((push2 rfl rfl))
theorem ok_impl_areSides : OkFn Tryd.prog 80 (S_impl_areSides R) :=
  okFn_of (good_cons ok_impl_within good_nil) follows Tryd.func80 rfl (by decide) (by decide) lam_nil (m := 2) (fun _ => rfl) (by decide) (fun _ _ h => nomatch h) (fun _ _ h => nomatch h) (fun x _ => ⟨40, e_impl_areSides R x.1 x.2.1⟩)

set_option maxRecDepth 100000 in
theorem e_impl_length_float32 (M : FOps) (a0 : (List Nat)) : cwp M Tryd.prog (envOf []) (lamOf []) 40 (Tryd.f81.body.getD .skip) 0 (retK Tryd.prog Tryd.f81.results.toList (.cons (.one (.int .i64)) .nil) 0) (initSt (.cons (.one (.ls (.fl .f32))) .nil) (a0, ())) = some (F_impl_length_float32 (p_impl_length_float32 M a0)) := by kernel_rfl
theorem ok_impl_length_float32 : OkFn Tryd.prog 81 (S_impl_length_float32 R) :=
  okFn_of good_nil follows Tryd.func81 rfl (by decide) (by decide) lam_nil (m := 1) (fun _ => rfl) (by decide) (fun _ _ h => nomatch h) (fun _ _ h => nomatch h) (fun x _ => ⟨40, e_impl_length_float32 R x.1⟩)

set_option maxRecDepth 100000 in
theorem e_impl_ValidGrid (M : FOps) (a0_0 : Int) (a0_1 : Int) (a0_2 : (List Nat)) (h : r_impl_ValidGrid M a0_0 a0_1 a0_2 = true) : cwp M Tryd.prog (envOf [(80, S_impl_areSides M), (81, S_impl_length_float32 M), (82, S_impl_areFinite M)]) (lamOf []) 40 (Tryd.f54.body.getD .skip) 0 (retK Tryd.prog Tryd.f54.results.toList (.cons (.one .bool) .nil) 0) (initSt (.cons (.agg (.pair (.int .i64) (.pair (.int .i64) (.ls (.fl .f32))))) .nil) ((a0_0, (a0_1, a0_2)), ())) = some (F_impl_ValidGrid (p_impl_ValidGrid M a0_0 a0_1 a0_2)) := 
  Eq.trans (b := (brT (p_impl_areSides M a0_0 a0_1) (brT (p_impl_length_float32 M a0_2 == IntKind.i64.wrap (a0_0 * a0_1)) (brT (decide (a0_2.length < 4611686018427387904)) (some (F_impl_ValidGrid (a0_2.all fun x => p_impl_IsFinite M x))) none) (some (F_impl_ValidGrid (false)))) (some (F_impl_ValidGrid (false))))) (by kernel_rfl)
    ((pushR (pushR (pushL (fun _ => rfl)) (fun _ => rfl)) (fun _ => rfl)) h)
theorem ok_impl_ValidGrid : OkFn Tryd.prog 54 (S_impl_ValidGrid R) :=
  okFn_of (good_cons ok_impl_areSides (good_cons ok_impl_length_float32 (good_cons ok_impl_areFinite good_nil))) follows Tryd.func54 rfl (by decide) (by decide) lam_nil (m := 1) (fun _ => rfl) (by decide) (fun _ _ h => nomatch h) (fun _ _ h => nomatch h) (fun x hx => ⟨40, e_impl_ValidGrid R x.1.1 x.1.2.1 x.1.2.2 hx⟩)

set_option maxRecDepth 100000 in
theorem e_internal_strconv_small (M : FOps) (a0 : Int) (h : r_internal_strconv_small M a0 = true) : cwp M Tryd.prog (envOf []) (lamOf []) 40 (Tryd.f166.body.getD .skip) 0 (retK Tryd.prog Tryd.f166.results.toList (.cons (.one .str) .nil) 0) (initSt (.cons (.one (.int .i64)) .nil) (a0, ())) = some (F_internal_strconv_small (p_internal_strconv_small M a0)) := 
  Eq.trans (b := (brT (decide (a0 < 10)) (brT (decide (0 ≤ (some a0).getD 0) && decide ((some a0).getD 0 ≤ (some (IntKind.i64.wrap (a0 + 1))).getD (Int.ofNat 36)) && decide ((some (IntKind.i64.wrap (a0 + 1))).getD (Int.ofNat 36) ≤ Int.ofNat 36)) (some (F_internal_strconv_small (p_sub { data := #[48, 49, 50, 51, 52, 53, 54, 55, 56, 57, 97, 98, 99, 100, 101, 102, 103, 104, 105, 106, 107, 108, 109, 110, 111, 112, 113, 114, 115, 116, 117, 118, 119, 120, 121, 122] } ((some a0).getD 0).toNat ((some (IntKind.i64.wrap (a0 + 1))).getD (Int.ofNat 36)).toNat))) none) (brT (decide (0 ≤ (some (IntKind.i64.wrap (a0 * 2))).getD 0) && decide ((some (IntKind.i64.wrap (a0 * 2))).getD 0 ≤ (some (IntKind.i64.wrap (IntKind.i64.wrap (a0 * 2) + 2))).getD (Int.ofNat 200)) && decide ((some (IntKind.i64.wrap (IntKind.i64.wrap (a0 * 2) + 2))).getD (Int.ofNat 200) ≤ Int.ofNat 200)) (some (F_internal_strconv_small (p_sub { data := (([48, 48, 48, 49, 48, 50, 48, 51, 48, 52, 48, 53, 48, 54, 48, 55, 48, 56, 48, 57, 49, 48, 49, 49, 49, 50, 49, 51, 49, 52, 49, 53, 49, 54, 49, 55, 49, 56, 49, 57, 50, 48, 50, 49, 50, 50, 50, 51, 50, 52].append [50, 53, 50, 54, 50, 55, 50, 56, 50, 57, 51, 48, 51, 49, 51, 50, 51, 51, 51, 52, 51, 53, 51, 54, 51, 55, 51, 56, 51, 57, 52, 48, 52, 49, 52, 50, 52, 51, 52, 52, 52, 53, 52, 54, 52, 55, 52, 56, 52, 57]).append ([53, 48, 53, 49, 53, 50, 53, 51, 53, 52, 53, 53, 53, 54, 53, 55, 53, 56, 53, 57, 54, 48, 54, 49, 54, 50, 54, 51, 54, 52, 54, 53, 54, 54, 54, 55, 54, 56, 54, 57, 55, 48, 55, 49, 55, 50, 55, 51, 55, 52].append [55, 53, 55, 54, 55, 55, 55, 56, 55, 57, 56, 48, 56, 49, 56, 50, 56, 51, 56, 52, 56, 53, 56, 54, 56, 55, 56, 56, 56, 57, 57, 48, 57, 49, 57, 50, 57, 51, 57, 52, 57, 53, 57, 54, 57, 55, 57, 56, 57, 57])).toArray } ((some (IntKind.i64.wrap (a0 * 2))).getD 0).toNat ((some (IntKind.i64.wrap (IntKind.i64.wrap (a0 * 2) + 2))).getD (Int.ofNat 200)).toNat))) none))) (by kernel_rfl)
    ((pushR (pushL (fun _ => rfl)) (pushL (fun _ => rfl))) h)
theorem ok_internal_strconv_small : OkFn Tryd.prog 166 (S_internal_strconv_small R) :=
  okFn_of good_nil follows Tryd.func166 rfl (by decide) (by decide) lam_nil (m := 1) (fun _ => rfl) (by decide) (fun _ _ h => nomatch h) (fun _ _ h => nomatch h) (fun x hx => ⟨40, e_internal_strconv_small R x.1 hx⟩)

set_option maxRecDepth 100000 in
theorem e_internal_strconv_FormatInt_10 (M : FOps) (a0 : Int) (h : r_internal_strconv_FormatInt_10 M a0 = true) : cwp M Tryd.prog (envOf [(166, S_internal_strconv_small M)]) (lamOf []) 40 (Tryd.f151.body.getD .skip) 0 (retK Tryd.prog Tryd.f151.results.toList (.cons (.one .str) .nil) 0) (initSt (.cons (.one (.int .i64)) (.cons (.lit (.int .i64 10)) .nil)) (a0, ((), ()))) = some (F_internal_strconv_FormatInt_10 (p_internal_strconv_FormatInt_10 M a0)) := 
  Eq.trans (b := (brT (decide (0 ≤ a0)) (brT (decide (a0 < 100)) (brT (r_internal_strconv_small M a0) (some (F_internal_strconv_FormatInt_10 (p_internal_strconv_small M a0))) none) (brT (decide (a0 < 0)) none none)) (brT (decide (a0 < 0)) none none))) (by kernel_rfl)
    ((pushL (pushL (pushL (fun _ => rfl)))) h)
theorem ok_internal_strconv_FormatInt_10 : OkFn Tryd.prog 151 (S_internal_strconv_FormatInt_10 R) :=
  okFn_of (good_cons ok_internal_strconv_small good_nil) follows Tryd.func151 rfl (by decide) (by decide) lam_nil (m := 2) (fun _ => rfl) (by decide) (fun _ _ h => nomatch h) (fun _ _ h => nomatch h) (fun x hx => ⟨40, e_internal_strconv_FormatInt_10 R x.1 hx⟩)

set_option maxRecDepth 100000 in
theorem e_strconv_FormatInt_10 (M : FOps) (a0 : Int) (h : r_strconv_FormatInt_10 M a0 = true) : cwp M Tryd.prog (envOf [(151, S_internal_strconv_FormatInt_10 M)]) (lamOf []) 40 (Tryd.f122.body.getD .skip) 0 (retK Tryd.prog Tryd.f122.results.toList (.cons (.one .str) .nil) 0) (initSt (.cons (.one (.int .i64)) (.cons (.lit (.int .i64 10)) .nil)) (a0, ((), ()))) = some (F_strconv_FormatInt_10 (p_strconv_FormatInt_10 M a0)) := 
  Eq.trans (b := (brT (r_internal_strconv_FormatInt_10 M a0) (some (F_strconv_FormatInt_10 (p_internal_strconv_FormatInt_10 M a0))) none)) (by kernel_rfl)
    ((pushL (fun _ => rfl)) h)
theorem ok_strconv_FormatInt_10 : OkFn Tryd.prog 122 (S_strconv_FormatInt_10 R) :=
  okFn_of (good_cons ok_internal_strconv_FormatInt_10 good_nil) follows Tryd.func122 rfl (by decide) (by decide) lam_nil (m := 2) (fun _ => rfl) (by decide) (fun _ _ h => nomatch h) (fun _ _ h => nomatch h) (fun x hx => ⟨40, e_strconv_FormatInt_10 R x.1 hx⟩)

set_option maxRecDepth 100000 in
theorem e_impl_Decimal (M : FOps) (a0 : Int) (h : r_impl_Decimal M a0 = true) : cwp M Tryd.prog (envOf [(122, S_strconv_FormatInt_10 M)]) (lamOf []) 40 (Tryd.f83.body.getD .skip) 0 (retK Tryd.prog Tryd.f83.results.toList (.cons (.one .str) .nil) 0) (initSt (.cons (.one (.int .i64)) .nil) (a0, ())) = some (F_impl_Decimal (p_impl_Decimal M a0)) := 
  Eq.trans (b := (brT (r_strconv_FormatInt_10 M a0) (some (F_impl_Decimal (p_strconv_FormatInt_10 M a0))) none)) (by kernel_rfl)
    ((pushL (fun _ => rfl)) h)
theorem ok_impl_Decimal : OkFn Tryd.prog 83 (S_impl_Decimal R) :=
  okFn_of (good_cons ok_strconv_FormatInt_10 good_nil) follows Tryd.func83 rfl (by decide) (by decide) lam_nil (m := 1) (fun _ => rfl) (by decide) (fun _ _ h => nomatch h) (fun _ _ h => nomatch h) (fun x hx => ⟨40, e_impl_Decimal R x.1 hx⟩)

set_option maxRecDepth 100000 in
theorem e_impl_gridText (M : FOps) (a0_0 : Int) (a0_1 : Int) (a0_2 : (List Nat)) (h : r_impl_gridText M a0_0 a0_1 a0_2 = true) : cwp M Tryd.prog (envOf [(75, S_impl_numbers M), (83, S_impl_Decimal M)]) (lamOf []) 40 (Tryd.f55.body.getD .skip) 0 (retK Tryd.prog Tryd.f55.results.toList (.cons (.one .str) .nil) 0) (initSt (.cons (.agg (.pair (.int .i64) (.pair (.int .i64) (.ls (.fl .f32))))) .nil) ((a0_0, (a0_1, a0_2)), ())) = some (F_impl_gridText (p_impl_gridText M a0_0 a0_1 a0_2)) := by
  refine Eq.trans (b := (brT (r_impl_Decimal M a0_0) (brT (((c0_impl_gridText M a0_0 a0_1 a0_2).size + 1).ble 4611686018427387904) (brT (r_impl_Decimal M a0_1) (brT ((((c0_impl_gridText M a0_0 a0_1 a0_2) ++ { data := #[44] }).size + (c1_impl_gridText M a0_0 a0_1 a0_2).size).ble 4611686018427387904) (brT ((((c0_impl_gridText M a0_0 a0_1 a0_2) ++ { data := #[44] } ++ (c1_impl_gridText M a0_0 a0_1 a0_2)).size + 1).ble 4611686018427387904) (brT (r_impl_numbers M a0_2) (brT ((((c0_impl_gridText M a0_0 a0_1 a0_2) ++ { data := #[44] } ++ (c1_impl_gridText M a0_0 a0_1 a0_2) ++ { data := #[59] }).size + (c2_impl_gridText M a0_0 a0_1 a0_2).size).ble 4611686018427387904) (some (F_impl_gridText ((c0_impl_gridText M a0_0 a0_1 a0_2) ++ { data := #[44] } ++ (c1_impl_gridText M a0_0 a0_1 a0_2) ++ { data := #[59] } ++ (c2_impl_gridText M a0_0 a0_1 a0_2)))) none) none) none) none) none) none) none)) (by kernel_rfl) ?_
  unfold r_impl_gridText at h
  simp only [Bool.and_eq_true] at h
  obtain ⟨h1, h2, h3, h4, h5, h6, h7, _⟩ := h
  rw [h1, h2, h3, h4, h5, h6, h7]
  rfl
theorem ok_impl_gridText : OkFn Tryd.prog 55 (S_impl_gridText R) :=
  okFn_of (good_cons ok_impl_numbers (good_cons ok_impl_Decimal good_nil)) follows Tryd.func55 rfl (by decide) (by decide) lam_nil (m := 1) (fun _ => rfl) (by decide) (fun _ _ h => nomatch h) (fun _ _ h => nomatch h) (fun x hx => ⟨40, e_impl_gridText R x.1.1 x.1.2.1 x.1.2.2 hx⟩)

set_option maxRecDepth 100000 in
theorem e_impl_GridText (M : FOps) (a0_0 : Int) (a0_1 : Int) (a0_2 : (List Nat)) (h : r_impl_GridText M a0_0 a0_1 a0_2 = true) : cwp M Tryd.prog (envOf [(54, S_impl_ValidGrid M), (55, S_impl_gridText M)]) (lamOf []) 40 (Tryd.f23.body.getD .skip) 0 (retK Tryd.prog Tryd.f23.results.toList (.cons (.one .str) (.cons (.one .bool) .nil)) 0) (initSt (.cons (.agg (.pair (.int .i64) (.pair (.int .i64) (.ls (.fl .f32))))) .nil) ((a0_0, (a0_1, a0_2)), ())) = some (F_impl_GridText (p_impl_GridText M a0_0 a0_1 a0_2)) := 
  Eq.trans (b := (brT (r_impl_ValidGrid M a0_0 a0_1 a0_2) (brT (!p_impl_ValidGrid M a0_0 a0_1 a0_2) (some (F_impl_GridText (({ data := #[] }, false)))) (brT (r_impl_gridText M a0_0 a0_1 a0_2) (some (F_impl_GridText ((p_impl_gridText M a0_0 a0_1 a0_2, true)))) none)) none)) (by kernel_rfl)
    ((pushL (pushR (fun _ => rfl) (pushL (fun _ => rfl)))) h)
theorem ok_impl_GridText : OkFn Tryd.prog 23 (S_impl_GridText R) :=
  okFn_of (good_cons ok_impl_ValidGrid (good_cons ok_impl_gridText good_nil)) follows Tryd.func23 rfl (by decide) (by decide) lam_nil (m := 1) (fun _ => rfl) (by decide) (fun _ _ h => nomatch h) (fun _ _ h => nomatch h) (fun x hx => ⟨40, e_impl_GridText R x.1.1 x.1.2.1 x.1.2.2 hx⟩)

set_option maxRecDepth 100000 in
theorem hs_spec_l01Dec_0 (M : FOps) (v0 : (List Int)) (v1 : Int) (v2 : Int) (v3 : ByteArray) : cwp M Tryd.prog (envOf []) (lamOf []) 40 ((loopsOf (Tryd.f86.body.getD .skip)).getD 0 .skip) 1 (stepK (.ren 3 0 (.cons (.to 3 0 (.int .u8)) (.cons (.tv 4 false (.int .i64)) (.cons (.tv 0 false (.int .i64)) (.cons (.tv 2 false .str) .nil))))) [((.exit 0), (.cons (.tv 0 false (.int .i64)) (.cons (.to 3 0 (.int .u8)) (.cons (.tv 2 false .str) .nil))))]) (canon (.ren 3 0 (.cons (.to 3 0 (.int .u8)) (.cons (.tv 4 false (.int .i64)) (.cons (.tv 0 false (.int .i64)) (.cons (.tv 2 false .str) .nil))))) 1 0 (v0, (v1, (v2, (v3, ()))))) = st_spec_l01Dec_0 M v0 v1 v2 v3 := by
  unfold st_spec_l01Dec_0
  kernel_rfl
set_option maxRecDepth 100000 in
theorem lk_spec_l01Dec_0 : LOk Tryd.prog Tryd.f86.ntmps ((loopsOf (Tryd.f86.body.getD .skip)).getD 0 .skip) (L_spec_l01Dec_0 R) :=
  lok (F := 40) (Λ := lamOf []) (b := 1) good_nil follows (by kernel_rfl) (fun _ _ _ _ h => nomatch h) (by decide) (by decide) (by decide) (fun x => hs_spec_l01Dec_0 R x.1 x.2.1 x.2.2.1 x.2.2.2.1)
set_option maxRecDepth 100000 in
theorem e_spec_l01Dec (M : FOps) (a0 : Int) (h : r_spec_l01Dec M a0 = true) : cwp M Tryd.prog (envOf []) (lamOf [(0, L_spec_l01Dec_0 M)]) 40 (Tryd.f86.body.getD .skip) 0 (retK Tryd.prog Tryd.f86.results.toList (.cons (.one .str) .nil) 0) (initSt (.cons (.one (.int .i64)) .nil) (a0, ())) = some (F_spec_l01Dec (p_spec_l01Dec M a0)) := 
  Eq.trans (b := (brT ((c0_spec_l01Dec M a0).isSome) (brT (decide (((c0_spec_l01Dec M a0).getD (0, [], { data := #[] }, ())).fst < 0)) (brT ((List.length ((c0_spec_l01Dec M a0).getD (0, [], { data := #[] }, ())).snd.fst).beq (List.length ((c0_spec_l01Dec M a0).getD (0, [], { data := #[] }, ())).snd.fst)) (brT ((1 + List.length ((c0_spec_l01Dec M a0).getD (0, [], { data := #[] }, ())).snd.fst).ble 1073741824) (brT (([45] ++ ((c0_spec_l01Dec M a0).getD (0, [], { data := #[] }, ())).snd.fst).length.beq ([45] ++ ((c0_spec_l01Dec M a0).getD (0, [], { data := #[] }, ())).snd.fst).length) (some (F_spec_l01Dec (p_bytes ([45] ++ ((c0_spec_l01Dec M a0).getD (0, [], { data := #[] }, ())).snd.fst)))) none) none) none) (brT ((List.length ((c0_spec_l01Dec M a0).getD (0, [], { data := #[] }, ())).snd.fst).beq (List.length ((c0_spec_l01Dec M a0).getD (0, [], { data := #[] }, ())).snd.fst)) (some (F_spec_l01Dec (p_bytes ((c0_spec_l01Dec M a0).getD (0, [], { data := #[] }, ())).snd.fst))) none)) none)) (by kernel_rfl)
    ((pushL (pushR (fun h => pushT beq_self_eq ((pushL (fun _ => (pushT beq_self_eq rfl))) h)) (fun _ => (pushT beq_self_eq rfl)))) h)
theorem ok_spec_l01Dec : OkFn Tryd.prog 86 (S_spec_l01Dec R) :=
  okFn_of good_nil follows Tryd.func86 rfl (by decide) (by decide) (lam_cons (i := 0) (cc := (loopsOf (Tryd.f86.body.getD .skip)).getD 0 .skip) (by kernel_rfl) lk_spec_l01Dec_0 lam_nil) (m := 1) (fun _ => rfl) (by decide) (fun _ _ h => nomatch h) (fun _ _ h => nomatch h) (fun x hx => ⟨40, e_spec_l01Dec R x.1 hx⟩)

set_option maxRecDepth 100000 in
theorem hs_spec_l01Text_0 (M : FOps) (v0 : (List Int)) (v1 : ByteArray) (v2 : Int) (v3 : ByteArray) : cwp M Tryd.prog (envOf [(86, S_spec_l01Dec M)]) (lamOf []) 40 ((loopsOf (Tryd.f79.body.getD .skip)).getD 0 .skip) 1 (stepK (.cons (.tv 0 true (.ls (.int .i64))) (.cons (.tv 3 false .str) (.cons (.tv 4 false (.int .i64)) (.cons (.tv 2 false .str) .nil)))) [((.exit 0), (.cons (.tv 3 false .str) (.cons (.tv 2 false .str) .nil)))]) (canon (.cons (.tv 0 true (.ls (.int .i64))) (.cons (.tv 3 false .str) (.cons (.tv 4 false (.int .i64)) (.cons (.tv 2 false .str) .nil)))) 0 0 (v0, (v1, (v2, (v3, ()))))) = st_spec_l01Text_0 M v0 v1 v2 v3 := by
  unfold st_spec_l01Text_0
  kernel_rfl
set_option maxRecDepth 100000 in
theorem lk_spec_l01Text_0 : LOk Tryd.prog Tryd.f79.ntmps ((loopsOf (Tryd.f79.body.getD .skip)).getD 0 .skip) (L_spec_l01Text_0 R) :=
  lok (F := 40) (Λ := lamOf []) (b := 1) (good_cons ok_spec_l01Dec good_nil) follows (by kernel_rfl) (fun _ _ _ _ h => nomatch h) (by decide) (by decide) (by decide) (fun x => hs_spec_l01Text_0 R x.1 x.2.1 x.2.2.1 x.2.2.2.1)
set_option maxRecDepth 100000 in
theorem e_spec_l01Text (M : FOps) (a0 : (List Int)) (h : r_spec_l01Text M a0 = true) : cwp M Tryd.prog (envOf [(86, S_spec_l01Dec M)]) (lamOf [(0, L_spec_l01Text_0 M)]) 40 (Tryd.f79.body.getD .skip) 0 (retK Tryd.prog Tryd.f79.results.toList (.cons (.one .str) .nil) 0) (initSt (.cons (.one (.ls (.int .i64))) .nil) (a0, ())) = some (F_spec_l01Text (p_spec_l01Text M a0)) := 
  Eq.trans (b := (brT ((↑a0.length : Int) == 0) (some (F_spec_l01Text ({ data := #[110, 111, 110, 101] }))) (brT (decide (0 < (↑a0.length : Int))) (brT (r_spec_l01Dec M (a0.getD 0 0)) (brT ((c0_spec_l01Text M a0).isSome) (some (F_spec_l01Text (((c0_spec_l01Text M a0).getD ({ data := #[] }, { data := #[] }, ())).fst))) none) none) none))) (by kernel_rfl)
    ((pushR (fun _ => rfl) (pushL (pushL (pushL (fun _ => rfl))))) h)
theorem ok_spec_l01Text : OkFn Tryd.prog 79 (S_spec_l01Text R) :=
  okFn_of (good_cons ok_spec_l01Dec good_nil) follows Tryd.func79 rfl (by decide) (by decide) (lam_cons (i := 0) (cc := (loopsOf (Tryd.f79.body.getD .skip)).getD 0 .skip) (by kernel_rfl) lk_spec_l01Text_0 lam_nil) (m := 1) (fun _ => rfl) (by decide) (fun _ _ h => nomatch h) (fun _ _ h => nomatch h) (fun x hx => ⟨40, e_spec_l01Text R x.1 hx⟩)

set_option maxRecDepth 100000 in
theorem e_spec_l08Grid (M : FOps) (a0_0 : Int) (a0_1 : Int) (a0_2 : (List Nat)) (h : r_spec_l08Grid M a0_0 a0_1 a0_2 = true) : cwp M Tryd.prog (envOf [(72, S_spec_l01NText M), (79, S_spec_l01Text M)]) (lamOf []) 40 (Tryd.f52.body.getD .skip) 0 (retK Tryd.prog Tryd.f52.results.toList (.cons (.one .str) .nil) 0) (initSt (.cons (.ptr (.pair (.int .i64) (.pair (.int .i64) (.ls (.fl .f32))))) .nil) ((a0_0, (a0_1, a0_2)), ())) = some (F_spec_l08Grid (p_spec_l08Grid M a0_0 a0_1 a0_2)) := 
  Eq.trans (b := (brT (r_spec_l01Text M [a0_0, a0_1]) (brT (((c0_spec_l08Grid M a0_0 a0_1 a0_2).size + 1).ble 4611686018427387904) (brT (r_spec_l01NText M a0_2) (brT ((((c0_spec_l08Grid M a0_0 a0_1 a0_2) ++ { data := #[59] }).size + (c1_spec_l08Grid M a0_0 a0_1 a0_2).size).ble 4611686018427387904) (some (F_spec_l08Grid ((c0_spec_l08Grid M a0_0 a0_1 a0_2) ++ { data := #[59] } ++ (c1_spec_l08Grid M a0_0 a0_1 a0_2)))) none) none) none) none)) (by kernel_rfl)
    ((pushL (pushL (pushL (pushL (fun _ => rfl))))) h)
theorem ok_spec_l08Grid : OkFn Tryd.prog 52 (S_spec_l08Grid R) :=
  okFn_of (good_cons ok_spec_l01NText (good_cons ok_spec_l01Text good_nil)) follows Tryd.func52 rfl (by decide) (by decide) lam_nil (m := 1) (fun _ => rfl) (by decide) (fun _ _ h => nomatch h) (fun _ _ h => nomatch h) (fun x hx => ⟨40, e_spec_l08Grid R x.1.1 x.1.2.1 x.1.2.2 hx⟩)

set_option maxRecDepth 100000 in
theorem e_spec_GridText (M : FOps) (a0_0 : Int) (a0_1 : Int) (a0_2 : (List Nat)) (h : r_spec_GridText M a0_0 a0_1 a0_2 = true) : cwp M Tryd.prog (envOf [(51, S_spec_l06Is M), (52, S_spec_l08Grid M)]) (lamOf []) 40 (Tryd.f21.body.getD .skip) 0 (retK Tryd.prog Tryd.f21.results.toList (.cons (.one .str) (.cons (.one .bool) .nil)) 0) (initSt (.cons (.agg (.pair (.int .i64) (.pair (.int .i64) (.ls (.fl .f32))))) .nil) ((a0_0, (a0_1, a0_2)), ())) = some (F_spec_GridText (p_spec_GridText M a0_0 a0_1 a0_2)) := 
  Eq.trans (b := (brT (r_spec_l06Is M a0_0 a0_1 a0_2) (brT (!p_spec_l06Is M a0_0 a0_1 a0_2) (some (F_spec_GridText (({ data := #[] }, false)))) (brT (r_spec_l08Grid M a0_0 a0_1 a0_2) (some (F_spec_GridText ((p_spec_l08Grid M a0_0 a0_1 a0_2, true)))) none)) none)) (by kernel_rfl)
    ((pushL (pushR (fun _ => rfl) (pushL (fun _ => rfl)))) h)
theorem ok_spec_GridText : OkFn Tryd.prog 21 (S_spec_GridText R) :=
  okFn_of (good_cons ok_spec_l06Is (good_cons ok_spec_l08Grid good_nil)) follows Tryd.func21 rfl (by decide) (by decide) lam_nil (m := 1) (fun _ => rfl) (by decide) (fun _ _ h => nomatch h) (fun _ _ h => nomatch h) (fun x hx => ⟨40, e_spec_GridText R x.1.1 x.1.2.1 x.1.2.2 hx⟩)

set_option maxRecDepth 100000 in
theorem hs_laws_eqFloat32S_0 (M : FOps) (v0 : (List Nat)) (v1 : (List Nat)) (v2 : Int) (v3 : Bool) : cwp M Tryd.prog (envOf [(76, S_laws_sameFloat M)]) (lamOf []) 40 ((loopsOf (Tryd.f56.body.getD .skip)).getD 0 .skip) 1 (stepK (.cons (.tv 0 true (.ls (.fl .f32))) (.cons (.tv 1 true (.ls (.fl .f32))) (.cons (.tv 5 false (.int .i64)) (.cons (.tv 4 false .bool) .nil)))) [(.ret, (.cons (.tv 4 false .bool) .nil)), ((.exit 0), (.cons (.tv 4 false .bool) .nil))]) (canon (.cons (.tv 0 true (.ls (.fl .f32))) (.cons (.tv 1 true (.ls (.fl .f32))) (.cons (.tv 5 false (.int .i64)) (.cons (.tv 4 false .bool) .nil)))) 0 0 (v0, (v1, (v2, (v3, ()))))) = st_laws_eqFloat32S_0 M v0 v1 v2 v3 := by
  unfold st_laws_eqFloat32S_0
  kernel_rfl
set_option maxRecDepth 100000 in
theorem lk_laws_eqFloat32S_0 : LOk Tryd.prog Tryd.f56.ntmps ((loopsOf (Tryd.f56.body.getD .skip)).getD 0 .skip) (L_laws_eqFloat32S_0 R) :=
  lok (F := 40) (Λ := lamOf []) (b := 1) (good_cons ok_laws_sameFloat good_nil) follows (by kernel_rfl) (fun _ _ _ _ h => nomatch h) (by decide) (by decide) (by decide) (fun x => hs_laws_eqFloat32S_0 R x.1 x.2.1 x.2.2.1 x.2.2.2.1)
set_option maxRecDepth 100000 in
theorem e_laws_eqFloat32S (M : FOps) (a0 : (List Nat)) (a1 : (List Nat)) (h : r_laws_eqFloat32S M a0 a1 = true) : cwp M Tryd.prog (envOf [(76, S_laws_sameFloat M)]) (lamOf [(0, L_laws_eqFloat32S_0 M)]) 40 (Tryd.f56.body.getD .skip) 0 (retK Tryd.prog Tryd.f56.results.toList (.cons (.one .bool) .nil) 0) (initSt (.cons (.one (.ls (.fl .f32))) (.cons (.one (.ls (.fl .f32))) .nil)) (a0, (a1, ()))) = some (F_laws_eqFloat32S (p_laws_eqFloat32S M a0 a1)) := 
  Eq.trans (b := (brT ((↑a0.length : Int) != (↑a1.length : Int)) (some (F_laws_eqFloat32S (false))) (brT ((c0_laws_eqFloat32S M a0 a1).isSome) (brT (isL ((c0_laws_eqFloat32S M a0 a1).getD (Sum.inl (false, ())))) (some (F_laws_eqFloat32S ((getL (false, ()) ((c0_laws_eqFloat32S M a0 a1).getD (Sum.inl (false, ())))).fst))) (some (F_laws_eqFloat32S (true)))) none))) (by kernel_rfl)
    ((pushR (fun _ => rfl) (pushL (fun _ => (push2 rfl rfl)))) h)
theorem ok_laws_eqFloat32S : OkFn Tryd.prog 56 (S_laws_eqFloat32S R) :=
  okFn_of (good_cons ok_laws_sameFloat good_nil) follows Tryd.func56 rfl (by decide) (by decide) (lam_cons (i := 0) (cc := (loopsOf (Tryd.f56.body.getD .skip)).getD 0 .skip) (by kernel_rfl) lk_laws_eqFloat32S_0 lam_nil) (m := 2) (fun _ => rfl) (by decide) (fun _ _ h => nomatch h) (fun _ _ h => nomatch h) (fun x hx => ⟨40, e_laws_eqFloat32S R x.1 x.2.1 hx⟩)

set_option maxRecDepth 100000 in
theorem e_laws_eqGrid (M : FOps) (a0_0 : Int) (a0_1 : Int) (a0_2 : (List Nat)) (a1_0 : Int) (a1_1 : Int) (a1_2 : (List Nat)) (h : r_laws_eqGrid M a0_0 a0_1 a0_2 a1_0 a1_1 a1_2 = true) : cwp M Tryd.prog (envOf [(56, S_laws_eqFloat32S M)]) (lamOf []) 40 (Tryd.f24.body.getD .skip) 0 (retK Tryd.prog Tryd.f24.results.toList (.cons (.one .bool) .nil) 0) (initSt (.cons (.agg (.pair (.int .i64) (.pair (.int .i64) (.ls (.fl .f32))))) (.cons (.agg (.pair (.int .i64) (.pair (.int .i64) (.ls (.fl .f32))))) .nil)) ((a0_0, (a0_1, a0_2)), ((a1_0, (a1_1, a1_2)), ()))) = some (F_laws_eqGrid (p_laws_eqGrid M a0_0 a0_1 a0_2 a1_0 a1_1 a1_2)) := 
  Eq.trans (b := (brT (a0_0 != a1_0) (some (F_laws_eqGrid (false))) (brT (a0_1 != a1_1) (some (F_laws_eqGrid (false))) (brT (r_laws_eqFloat32S M a0_2 a1_2) (brT (!p_laws_eqFloat32S M a0_2 a1_2) (some (F_laws_eqGrid (false))) (some (F_laws_eqGrid (true)))) none)))) (by kernel_rfl)
    ((pushR (fun _ => rfl) (pushR (fun _ => rfl) (pushL (fun _ => (push2 rfl rfl))))) h)
theorem ok_laws_eqGrid : OkFn Tryd.prog 24 (S_laws_eqGrid R) :=
  okFn_of (good_cons ok_laws_eqFloat32S good_nil) follows Tryd.func24 rfl (by decide) (by decide) lam_nil (m := 2) (fun _ => rfl) (by decide) (fun _ _ h => nomatch h) (fun _ _ h => nomatch h) (fun x hx => ⟨40, e_laws_eqGrid R x.1.1 x.1.2.1 x.1.2.2 x.2.1.1 x.2.1.2.1 x.2.1.2.2 hx⟩)

theorem ok_laws_toGrid_fz : OkFn Tryd.prog 22 (S_laws_toGrid_fz R) := frz_okFn frz_mk ok_laws_toGrid

end Go.Proofs.YtbgpobiaaebbeaaDoor
