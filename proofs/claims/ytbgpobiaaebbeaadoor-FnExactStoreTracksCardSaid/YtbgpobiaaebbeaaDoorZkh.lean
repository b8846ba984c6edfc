/- Printed by gen2.py. -/
import Derived.Test.YtbgpobiaaebbeaaDoorWkh
import Derived.Test.YtbgpobiaaebbeaaDoorZkc
import Derived.Test.YtbgpobiaaebbeaaDoorZke

set_option linter.unusedVariables false
set_option linter.unusedSimpArgs false

-- GENERATED BELOW (gen.py)
namespace Go.Proofs.YtbgpobiaaebbeaaDoor
open Go Go.Cv Go.Dv
set_option maxRecDepth 100000 in
theorem e_laws_szTrack (M : FOps) (a0_0 : ByteArray) (a0_1 : (List (Nat × Nat))) (a1 : Int) : cwp M Tryd.prog (envOf [(15, S_laws_szPlaceS M)]) (lamOf []) 40 (Tryd.f10.body.getD .skip) 0 (retK Tryd.prog Tryd.f10.results.toList (.cons (.one (.int .i64)) .nil) 0) (initSt (.cons (.agg (.pair .str (.ls (.pair (.fl .f32) (.fl .f32))))) (.cons (.one (.int .i64)) .nil)) ((a0_0, a0_1), (a1, ()))) = some (F_laws_szTrack (p_laws_szTrack M a0_0 a0_1 a1)) := 
  Eq.trans (b := (brT (decide (IntKind.i64.wrap (a1 - (↑a0_0.size : Int)) < 0)) (some (F_laws_szTrack (Int.negSucc 0))) (brT (decide ((c0_laws_szTrack M a0_0 a0_1 a1) < 0)) (some (F_laws_szTrack (Int.negSucc 0))) (some (F_laws_szTrack ((c0_laws_szTrack M a0_0 a0_1 a1))))))) (by kernel_rfl)
    ((push2 rfl (push2 rfl rfl)))
theorem ok_laws_szTrack : OkFn Tryd.prog 10 (S_laws_szTrack R) :=
  okFn_of (good_cons ok_laws_szPlaceS good_nil) follows Tryd.func10 rfl (by decide) (by decide) lam_nil (m := 2) (fun _ => rfl) (by decide) (fun _ _ h => nomatch h) (fun _ _ h => nomatch h) (fun x _ => ⟨40, e_laws_szTrack R x.1.1 x.1.2 x.2.1⟩)

set_option maxRecDepth 100000 in
theorem hs_spec_l07Name_0 (M : FOps) (v0 : ByteArray) (v1 : Int) (v2 : Bool) : cwp M Tryd.prog (envOf []) (lamOf []) 40 ((loopsOf (Tryd.f65.body.getD .skip)).getD 0 .skip) 1 (stepK (.cons (.tv 0 false .str) (.cons (.tv 3 false (.int .i64)) (.cons (.tv 2 false .bool) .nil))) [(.ret, (.cons (.tv 2 false .bool) .nil)), ((.exit 0), (.cons (.tv 0 false .str) (.cons (.tv 2 false .bool) .nil)))]) (canon (.cons (.tv 0 false .str) (.cons (.tv 3 false (.int .i64)) (.cons (.tv 2 false .bool) .nil))) 0 0 (v0, (v1, (v2, ())))) = st_spec_l07Name_0 M v0 v1 v2 := by
  unfold st_spec_l07Name_0
  kernel_rfl
set_option maxRecDepth 100000 in
theorem lk_spec_l07Name_0 : LOk Tryd.prog Tryd.f65.ntmps ((loopsOf (Tryd.f65.body.getD .skip)).getD 0 .skip) (L_spec_l07Name_0 R) :=
  lok (F := 40) (Λ := lamOf []) (b := 1) good_nil follows (by kernel_rfl) (fun _ _ _ _ h => nomatch h) (by decide) (by decide) (by decide) (fun x => hs_spec_l07Name_0 R x.1 x.2.1 x.2.2.1)
set_option maxRecDepth 100000 in
theorem e_spec_l07Name (M : FOps) (a0 : ByteArray) (h : r_spec_l07Name M a0 = true) : cwp M Tryd.prog (envOf []) (lamOf [(0, L_spec_l07Name_0 M)]) 40 (Tryd.f65.body.getD .skip) 0 (retK Tryd.prog Tryd.f65.results.toList (.cons (.one .bool) .nil) 0) (initSt (.cons (.one .str) .nil) (a0, ())) = some (F_spec_l07Name (p_spec_l07Name M a0)) := 
  Eq.trans (b := (brT ((c0_spec_l07Name M a0).isSome) (brT (isL ((c0_spec_l07Name M a0).getD (Sum.inl (false, ())))) (some (F_spec_l07Name ((getL (false, ()) ((c0_spec_l07Name M a0).getD (Sum.inl (false, ())))).fst))) (brT (decide ((↑(ByteArray.size (getR ({ data := #[] }, false, ()) ((c0_spec_l07Name M a0).getD (Sum.inl (false, ())))).fst) : Int) ≥ 1)) (some (F_spec_l07Name (decide ((↑(ByteArray.size (getR ({ data := #[] }, false, ()) ((c0_spec_l07Name M a0).getD (Sum.inl (false, ())))).fst) : Int) ≤ 8)))) (some (F_spec_l07Name (false))))) none)) (by kernel_rfl)
    ((pushL (fun _ => (push2 rfl (push2 rfl rfl)))) h)
theorem ok_spec_l07Name : OkFn Tryd.prog 65 (S_spec_l07Name R) :=
  okFn_of good_nil follows Tryd.func65 rfl (by decide) (by decide) (lam_cons (i := 0) (cc := (loopsOf (Tryd.f65.body.getD .skip)).getD 0 .skip) (by kernel_rfl) lk_spec_l07Name_0 lam_nil) (m := 1) (fun _ => rfl) (by decide) (fun _ _ h => nomatch h) (fun _ _ h => nomatch h) (fun x hx => ⟨40, e_spec_l07Name R x.1 hx⟩)

set_option maxRecDepth 100000 in
theorem e_spec_l02Step (M : FOps) (a0 : Nat) (h : r_spec_l02Step M a0 = true) : cwp M Tryd.prog (envOf [(161, S_math_Floor M)]) (lamOf []) 40 (Tryd.f138.body.getD .skip) 0 (retK Tryd.prog Tryd.f138.results.toList (.cons (.one (.int .i64)) .nil) 0) (initSt (.cons (.one (.fl .f32)) .nil) (a0, ())) = some (F_spec_l02Step (p_spec_l02Step M a0)) := 
  Eq.trans (b := (brT (M.toiOk FloatKind.f64 (c0_spec_l02Step M a0) IntKind.i64) (some (F_spec_l02Step (M.toi FloatKind.f64 (c0_spec_l02Step M a0) IntKind.i64))) none)) (by kernel_rfl)
    ((pushL (fun _ => rfl)) h)
theorem ok_spec_l02Step : OkFn Tryd.prog 138 (S_spec_l02Step R) :=
  okFn_of (good_cons ok_math_Floor good_nil) follows Tryd.func138 rfl (by decide) (by decide) lam_nil (m := 1) (fun _ => rfl) (by decide) (fun _ _ h => nomatch h) (fun _ _ h => nomatch h) (fun x hx => ⟨40, e_spec_l02Step R x.1 hx⟩)

set_option maxRecDepth 100000 in
theorem e_spec_StepsOf (M : FOps) (a0_0 : Nat) (a0_1 : Nat) (h : r_spec_StepsOf M a0_0 a0_1 = true) : cwp M Tryd.prog (envOf [(71, S_spec_l02Is M), (138, S_spec_l02Step M)]) (lamOf []) 40 (Tryd.f100.body.getD .skip) 0 (retK Tryd.prog Tryd.f100.results.toList (.cons (.one (.int .i64)) (.cons (.one (.int .i64)) (.cons (.one .bool) .nil))) 0) (initSt (.cons (.agg (.pair (.fl .f32) (.fl .f32))) .nil) ((a0_0, a0_1), ())) = some (F_spec_StepsOf (p_spec_StepsOf M a0_0 a0_1)) := 
  Eq.trans (b := (brT (!p_spec_l02Is M a0_0 a0_1) (some (F_spec_StepsOf ((0, 0, false)))) (brT (r_spec_l02Step M a0_1) (brT ((c0_spec_StepsOf M a0_0 a0_1) == 8388608) (brT (r_spec_l02Step M a0_0) (some (F_spec_StepsOf ((p_spec_l02Step M a0_0, Int.negSucc 8388607, true)))) none) (brT (r_spec_l02Step M a0_0) (some (F_spec_StepsOf ((p_spec_l02Step M a0_0, (c0_spec_StepsOf M a0_0 a0_1), true)))) none)) none))) (by kernel_rfl)
    ((pushR (fun _ => rfl) (pushL (pushR (pushL (fun _ => rfl)) (pushL (fun _ => rfl))))) h)
theorem ok_spec_StepsOf : OkFn Tryd.prog 100 (S_spec_StepsOf R) :=
  okFn_of (good_cons ok_spec_l02Is (good_cons ok_spec_l02Step good_nil)) follows Tryd.func100 rfl (by decide) (by decide) lam_nil (m := 1) (fun _ => rfl) (by decide) (fun _ _ h => nomatch h) (fun _ _ h => nomatch h) (fun x hx => ⟨40, e_spec_StepsOf R x.1.1 x.1.2 hx⟩)

set_option maxRecDepth 100000 in
theorem e_spec_PlaceOfSteps (M : FOps) (a0 : Int) (a1 : Int) : cwp M Tryd.prog (envOf [(119, S_spec_l00In M)]) (lamOf []) 40 (Tryd.f101.body.getD .skip) 0 (retK Tryd.prog Tryd.f101.results.toList (.cons (.agg (.pair (.fl .f32) (.fl .f32))) (.cons (.one .bool) .nil)) 0) (initSt (.cons (.one (.int .i64)) (.cons (.one (.int .i64)) .nil)) (a0, (a1, ()))) = some (F_spec_PlaceOfSteps (p_spec_PlaceOfSteps M a0 a1)) := 
  Eq.trans (b := (brT (!p_spec_l00In M a0 (Int.negSucc 4194303) 4194304) (some (F_spec_PlaceOfSteps ((0, 0, false)))) (brT (!p_spec_l00In M a1 (Int.negSucc 8388607) 8388607) (some (F_spec_PlaceOfSteps ((0, 0, false)))) (some (F_spec_PlaceOfSteps ((M.bin BinOp.quo FloatKind.f32 (M.ofi FloatKind.f32 a0) 1266679808, M.bin BinOp.quo FloatKind.f32 (M.ofi FloatKind.f32 a1) 1266679808, true))))))) (by kernel_rfl)
    ((push2 rfl (push2 rfl rfl)))
theorem ok_spec_PlaceOfSteps : OkFn Tryd.prog 101 (S_spec_PlaceOfSteps R) :=
  okFn_of (good_cons ok_spec_l00In good_nil) follows Tryd.func101 rfl (by decide) (by decide) lam_nil (m := 2) (fun _ => rfl) (by decide) (fun _ _ h => nomatch h) (fun _ _ h => nomatch h) (fun x _ => ⟨40, e_spec_PlaceOfSteps R x.1 x.2.1⟩)

set_option maxRecDepth 100000 in
theorem e_spec_l01Same (M : FOps) (a0 : Nat) (a1 : Nat) (h : r_spec_l01Same M a0 a1 = true) : cwp M Tryd.prog (envOf [(133, S_spec_l01Bits M)]) (lamOf []) 40 (Tryd.f139.body.getD .skip) 0 (retK Tryd.prog Tryd.f139.results.toList (.cons (.one .bool) .nil) 0) (initSt (.cons (.one (.fl .f32)) (.cons (.one (.fl .f32)) .nil)) (a0, (a1, ()))) = some (F_spec_l01Same (p_spec_l01Same M a0 a1)) := 
  Eq.trans (b := (brT (r_spec_l01Bits M a0) (brT (r_spec_l01Bits M a1) (some (F_spec_l01Same (p_spec_l01Bits M a0 == p_spec_l01Bits M a1))) none) none)) (by kernel_rfl)
    ((pushL (pushL (fun _ => rfl))) h)
theorem ok_spec_l01Same : OkFn Tryd.prog 139 (S_spec_l01Same R) :=
  okFn_of (good_cons ok_spec_l01Bits good_nil) follows Tryd.func139 rfl (by decide) (by decide) lam_nil (m := 2) (fun _ => rfl) (by decide) (fun _ _ h => nomatch h) (fun _ _ h => nomatch h) (fun x hx => ⟨40, e_spec_l01Same R x.1 x.2.1 hx⟩)

set_option maxRecDepth 100000 in
theorem e_spec_l02Same (M : FOps) (a0_0 : Nat) (a0_1 : Nat) (a1_0 : Nat) (a1_1 : Nat) (h : r_spec_l02Same M a0_0 a0_1 a1_0 a1_1 = true) : cwp M Tryd.prog (envOf [(139, S_spec_l01Same M)]) (lamOf []) 40 (Tryd.f102.body.getD .skip) 0 (retK Tryd.prog Tryd.f102.results.toList (.cons (.one .bool) .nil) 0) (initSt (.cons (.ptr (.pair (.fl .f32) (.fl .f32))) (.cons (.ptr (.pair (.fl .f32) (.fl .f32))) .nil)) ((a0_0, a0_1), ((a1_0, a1_1), ()))) = some (F_spec_l02Same (p_spec_l02Same M a0_0 a0_1 a1_0 a1_1)) := 
  Eq.trans (b := (brT (r_spec_l01Same M a0_0 a1_0) (brT (p_spec_l01Same M a0_0 a1_0) (brT (r_spec_l01Same M a0_1 a1_1) (some (F_spec_l02Same (p_spec_l01Same M a0_1 a1_1))) none) (some (F_spec_l02Same (false)))) none)) (by kernel_rfl)
    ((pushL (pushR (pushL (fun _ => rfl)) (fun _ => rfl))) h)
theorem ok_spec_l02Same : OkFn Tryd.prog 102 (S_spec_l02Same R) :=
  okFn_of (good_cons ok_spec_l01Same good_nil) follows Tryd.func102 rfl (by decide) (by decide) lam_nil (m := 2) (fun _ => rfl) (by decide) (fun _ _ h => nomatch h) (fun _ _ h => nomatch h) (fun x hx => ⟨40, e_spec_l02Same R x.1.1 x.1.2 x.2.1.1 x.2.1.2 hx⟩)

set_option maxRecDepth 100000 in
theorem hs_spec_l07Packed_0 (M : FOps) (v0 : (List (Nat × Nat))) (v1 : Int) (v2 : Int) (v3 : Bool) : cwp M Tryd.prog (envOf [(44, S_spec_l02Are M), (100, S_spec_StepsOf M), (101, S_spec_PlaceOfSteps M), (102, S_spec_l02Same M)]) (lamOf []) 40 ((loopsOf (Tryd.f66.body.getD .skip)).getD 0 .skip) 1 (stepK (.cons (.tv 0 true (.ls (.pair (.fl .f32) (.fl .f32)))) (.cons (.tv 13 false (.int .i64)) (.cons (.tv 14 false (.int .i64)) (.cons (.tv 2 false .bool) .nil)))) [(.ret, (.cons (.tv 2 false .bool) .nil)), ((.exit 0), (.cons (.tv 2 false .bool) .nil))]) (canon (.cons (.tv 0 true (.ls (.pair (.fl .f32) (.fl .f32)))) (.cons (.tv 13 false (.int .i64)) (.cons (.tv 14 false (.int .i64)) (.cons (.tv 2 false .bool) .nil)))) 0 0 (v0, (v1, (v2, (v3, ()))))) = st_spec_l07Packed_0 M v0 v1 v2 v3 := by
  unfold st_spec_l07Packed_0
  kernel_rfl
set_option maxRecDepth 100000 in
theorem lk_spec_l07Packed_0 : LOk Tryd.prog Tryd.f66.ntmps ((loopsOf (Tryd.f66.body.getD .skip)).getD 0 .skip) (L_spec_l07Packed_0 R) :=
  lok (F := 40) (Λ := lamOf []) (b := 1) (good_cons ok_spec_l02Are (good_cons ok_spec_StepsOf (good_cons ok_spec_PlaceOfSteps (good_cons ok_spec_l02Same good_nil)))) follows (by kernel_rfl) (fun _ _ _ _ h => nomatch h) (by decide) (by decide) (by decide) (fun x => hs_spec_l07Packed_0 R x.1 x.2.1 x.2.2.1 x.2.2.2.1)
set_option maxRecDepth 100000 in
theorem e_spec_l07Packed (M : FOps) (a0 : (List (Nat × Nat))) (h : r_spec_l07Packed M a0 = true) : cwp M Tryd.prog (envOf [(44, S_spec_l02Are M), (100, S_spec_StepsOf M), (101, S_spec_PlaceOfSteps M), (102, S_spec_l02Same M)]) (lamOf [(0, L_spec_l07Packed_0 M)]) 40 (Tryd.f66.body.getD .skip) 0 (retK Tryd.prog Tryd.f66.results.toList (.cons (.one .bool) .nil) 0) (initSt (.cons (.one (.ls (.pair (.fl .f32) (.fl .f32)))) .nil) (a0, ())) = some (F_spec_l07Packed (p_spec_l07Packed M a0)) := 
  Eq.trans (b := (brT (decide (a0.length < 4611686018427387904)) (brT (!((a0.all fun x => p_impl_ValidPlace M x.fst x.snd) && (decide (1 ≤ a0.length) && decide (a0.length ≤ 64)))) (some (F_spec_l07Packed (false))) (brT ((c0_spec_l07Packed M a0).isSome) (brT (isL ((c0_spec_l07Packed M a0).getD (Sum.inl (false, ())))) (some (F_spec_l07Packed ((getL (false, ()) ((c0_spec_l07Packed M a0).getD (Sum.inl (false, ())))).fst))) (some (F_spec_l07Packed (true)))) none)) none)) (by kernel_rfl)
    ((pushL (pushR (fun _ => rfl) (pushL (fun _ => (push2 rfl rfl))))) h)
theorem ok_spec_l07Packed : OkFn Tryd.prog 66 (S_spec_l07Packed R) :=
  okFn_of (good_cons ok_spec_l02Are (good_cons ok_spec_StepsOf (good_cons ok_spec_PlaceOfSteps (good_cons ok_spec_l02Same good_nil)))) follows Tryd.func66 rfl (by decide) (by decide) (lam_cons (i := 0) (cc := (loopsOf (Tryd.f66.body.getD .skip)).getD 0 .skip) (by kernel_rfl) lk_spec_l07Packed_0 lam_nil) (m := 1) (fun _ => rfl) (by decide) (fun _ _ h => nomatch h) (fun _ _ h => nomatch h) (fun x hx => ⟨40, e_spec_l07Packed R x.1 hx⟩)

set_option maxRecDepth 100000 in
theorem e_spec_l07Track (M : FOps) (a0_0 : ByteArray) (a0_1 : (List (Nat × Nat))) (h : r_spec_l07Track M a0_0 a0_1 = true) : cwp M Tryd.prog (envOf [(65, S_spec_l07Name M), (66, S_spec_l07Packed M)]) (lamOf []) 40 (Tryd.f41.body.getD .skip) 0 (retK Tryd.prog Tryd.f41.results.toList (.cons (.one .bool) .nil) 0) (initSt (.cons (.ptr (.pair .str (.ls (.pair (.fl .f32) (.fl .f32))))) .nil) ((a0_0, a0_1), ())) = some (F_spec_l07Track (p_spec_l07Track M a0_0 a0_1)) := 
  Eq.trans (b := (brT (r_spec_l07Name M a0_0) (brT (p_spec_l07Name M a0_0) (brT (r_spec_l07Packed M a0_1) (some (F_spec_l07Track (p_spec_l07Packed M a0_1))) none) (some (F_spec_l07Track (false)))) none)) (by kernel_rfl)
    ((pushL (pushR (pushL (fun _ => rfl)) (fun _ => rfl))) h)
theorem ok_spec_l07Track : OkFn Tryd.prog 41 (S_spec_l07Track R) :=
  okFn_of (good_cons ok_spec_l07Name (good_cons ok_spec_l07Packed good_nil)) follows Tryd.func41 rfl (by decide) (by decide) lam_nil (m := 1) (fun _ => rfl) (by decide) (fun _ _ h => nomatch h) (fun _ _ h => nomatch h) (fun x hx => ⟨40, e_spec_l07Track R x.1.1 x.1.2 hx⟩)

set_option maxRecDepth 100000 in
theorem e_laws_toTrack (M : FOps) (a0_0 : ByteArray) (a0_1 : (List (Nat × Nat))) (h : r_laws_toTrack M a0_0 a0_1 = true) : cwp M Tryd.prog (envOf [(17, S_laws_toPlaceS M)]) (lamOf []) 40 (Tryd.f12.body.getD .skip) 0 (retK Tryd.prog Tryd.f12.results.toList (.cons (.agg (.pair .str (.ls (.pair (.fl .f32) (.fl .f32))))) .nil) 0) (initSt (.cons (.agg (.pair .str (.ls (.pair (.fl .f32) (.fl .f32))))) .nil) ((a0_0, a0_1), ())) = some (F_laws_toTrack (p_laws_toTrack M a0_0 a0_1)) := 
  Eq.trans (b := (brT (decide (a0_1.length ≤ 1073741824)) (brT (a0_1.length.beq a0_1.length && true) (some (F_laws_toTrack ((a0_0, a0_1)))) none) none)) (by kernel_rfl)
    ((pushL (pushL (fun _ => rfl))) h)
theorem ok_laws_toTrack : OkFn Tryd.prog 12 (S_laws_toTrack R) :=
  okFn_of (good_cons ok_laws_toPlaceS good_nil) follows Tryd.func12 rfl (by decide) (by decide) lam_nil (m := 1) (fun _ => rfl) (by decide) (fun _ _ h => nomatch h) (fun y c h => by simp [encR, encC] at h; first | (subst h; exact ⟨_, _, rfl⟩) | (rcases h with rfl | rfl <;> exact ⟨_, _, rfl⟩) | (rcases h with rfl | rfl | rfl <;> exact ⟨_, _, rfl⟩)) (fun x hx => ⟨40, e_laws_toTrack R x.1.1 x.1.2 hx⟩)
theorem ok_laws_toTrack_fz : OkFn Tryd.prog 12 (S_laws_toTrack_fz R) := frz_okFn frz_mk ok_laws_toTrack

set_option maxRecDepth 100000 in
theorem e_impl_IsName (M : FOps) (a0 : ByteArray) (h : r_impl_IsName M a0 = true) : cwp M Tryd.prog (envOf [(67, S_impl_within M), (68, S_strings_Trim M)]) (lamOf []) 40 (Tryd.f42.body.getD .skip) 0 (retK Tryd.prog Tryd.f42.results.toList (.cons (.one .bool) .nil) 0) (initSt (.cons (.one .str) .nil) (a0, ())) = some (F_impl_IsName (p_impl_IsName M a0)) := 
  Eq.trans (b := (brT (p_impl_within M (↑a0.size : Int) 1 8) (brT (r_strings_Trim M a0 { data := #[97, 98, 99, 100, 101, 102, 103, 104, 105, 106, 107, 108, 109, 110, 111, 112, 113, 114, 115, 116, 117, 118, 119, 120, 121, 122] }) (some (F_impl_IsName ((p_strings_Trim M a0 { data := #[97, 98, 99, 100, 101, 102, 103, 104, 105, 106, 107, 108, 109, 110, 111, 112, 113, 114, 115, 116, 117, 118, 119, 120, 121, 122] }).toList == (ByteArray.mk #[]).toList))) none) (some (F_impl_IsName (false))))) (by kernel_rfl)
    ((pushR (pushL (fun _ => rfl)) (fun _ => rfl)) h)
theorem ok_impl_IsName : OkFn Tryd.prog 42 (S_impl_IsName R) :=
  okFn_of (good_cons ok_impl_within (good_cons ok_strings_Trim good_nil)) follows Tryd.func42 rfl (by decide) (by decide) lam_nil (m := 1) (fun _ => rfl) (by decide) (fun _ _ h => nomatch h) (fun _ _ h => nomatch h) (fun x hx => ⟨40, e_impl_IsName R x.1 hx⟩)

set_option maxRecDepth 100000 in
theorem e_impl_stepOf (M : FOps) (a0 : Nat) (h : r_impl_stepOf M a0 = true) : cwp M Tryd.prog (envOf [(161, S_math_Floor M)]) (lamOf []) 40 (Tryd.f145.body.getD .skip) 0 (retK Tryd.prog Tryd.f145.results.toList (.cons (.one (.int .i64)) .nil) 0) (initSt (.cons (.one (.fl .f32)) .nil) (a0, ())) = some (F_impl_stepOf (p_impl_stepOf M a0)) := 
  Eq.trans (b := (brT (M.toiOk FloatKind.f64 (c0_impl_stepOf M a0) IntKind.i64) (some (F_impl_stepOf (M.toi FloatKind.f64 (c0_impl_stepOf M a0) IntKind.i64))) none)) (by kernel_rfl)
    ((pushL (fun _ => rfl)) h)
theorem ok_impl_stepOf : OkFn Tryd.prog 145 (S_impl_stepOf R) :=
  okFn_of (good_cons ok_math_Floor good_nil) follows Tryd.func145 rfl (by decide) (by decide) lam_nil (m := 1) (fun _ => rfl) (by decide) (fun _ _ h => nomatch h) (fun _ _ h => nomatch h) (fun x hx => ⟨40, e_impl_stepOf R x.1 hx⟩)

set_option maxRecDepth 100000 in
theorem e_impl_StepsOf (M : FOps) (a0_0 : Nat) (a0_1 : Nat) (h : r_impl_StepsOf M a0_0 a0_1 = true) : cwp M Tryd.prog (envOf [(117, S_impl_ValidPlace M), (145, S_impl_stepOf M)]) (lamOf []) 40 (Tryd.f112.body.getD .skip) 0 (retK Tryd.prog Tryd.f112.results.toList (.cons (.one (.int .i64)) (.cons (.one (.int .i64)) (.cons (.one .bool) .nil))) 0) (initSt (.cons (.agg (.pair (.fl .f32) (.fl .f32))) .nil) ((a0_0, a0_1), ())) = some (F_impl_StepsOf (p_impl_StepsOf M a0_0 a0_1)) := 
  Eq.trans (b := (brT (!p_impl_ValidPlace M a0_0 a0_1) (some (F_impl_StepsOf ((0, 0, false)))) (brT (r_impl_stepOf M a0_0) (brT (r_impl_stepOf M a0_1) (brT ((c0_impl_StepsOf M a0_0 a0_1) == 8388608) (some (F_impl_StepsOf ((p_impl_stepOf M a0_0, Int.negSucc 8388607, true)))) (some (F_impl_StepsOf ((p_impl_stepOf M a0_0, (c0_impl_StepsOf M a0_0 a0_1), true))))) none) none))) (by kernel_rfl)
    ((pushR (fun _ => rfl) (pushL (pushL (fun _ => (push2 rfl rfl))))) h)
theorem ok_impl_StepsOf : OkFn Tryd.prog 112 (S_impl_StepsOf R) :=
  okFn_of (good_cons ok_impl_ValidPlace (good_cons ok_impl_stepOf good_nil)) follows Tryd.func112 rfl (by decide) (by decide) lam_nil (m := 1) (fun _ => rfl) (by decide) (fun _ _ h => nomatch h) (fun _ _ h => nomatch h) (fun x hx => ⟨40, e_impl_StepsOf R x.1.1 x.1.2 hx⟩)

set_option maxRecDepth 100000 in
theorem e_impl_PlaceOfSteps (M : FOps) (a0 : Int) (a1 : Int) : cwp M Tryd.prog (envOf [(67, S_impl_within M)]) (lamOf []) 40 (Tryd.f113.body.getD .skip) 0 (retK Tryd.prog Tryd.f113.results.toList (.cons (.agg (.pair (.fl .f32) (.fl .f32))) (.cons (.one .bool) .nil)) 0) (initSt (.cons (.one (.int .i64)) (.cons (.one (.int .i64)) .nil)) (a0, (a1, ()))) = some (F_impl_PlaceOfSteps (p_impl_PlaceOfSteps M a0 a1)) := 
  Eq.trans (b := (brT (!p_impl_within M a0 (Int.negSucc 4194303) 4194304) (some (F_impl_PlaceOfSteps ((0, 0, false)))) (brT (!p_impl_within M a1 (Int.negSucc 8388607) 8388607) (some (F_impl_PlaceOfSteps ((0, 0, false)))) (some (F_impl_PlaceOfSteps ((M.bin BinOp.quo FloatKind.f32 (M.ofi FloatKind.f32 a0) 1266679808, M.bin BinOp.quo FloatKind.f32 (M.ofi FloatKind.f32 a1) 1266679808, true))))))) (by kernel_rfl)
    ((push2 rfl (push2 rfl rfl)))
theorem ok_impl_PlaceOfSteps : OkFn Tryd.prog 113 (S_impl_PlaceOfSteps R) :=
  okFn_of (good_cons ok_impl_within good_nil) follows Tryd.func113 rfl (by decide) (by decide) lam_nil (m := 2) (fun _ => rfl) (by decide) (fun _ _ h => nomatch h) (fun _ _ h => nomatch h) (fun x _ => ⟨40, e_impl_PlaceOfSteps R x.1 x.2.1⟩)

set_option maxRecDepth 100000 in
theorem e_impl_SameNumber (M : FOps) (a0 : Nat) (a1 : Nat) (h : r_impl_SameNumber M a0 a1 = true) : cwp M Tryd.prog (envOf [(159, S_impl_BitsOf M)]) (lamOf []) 40 (Tryd.f146.body.getD .skip) 0 (retK Tryd.prog Tryd.f146.results.toList (.cons (.one .bool) .nil) 0) (initSt (.cons (.one (.fl .f32)) (.cons (.one (.fl .f32)) .nil)) (a0, (a1, ()))) = some (F_impl_SameNumber (p_impl_SameNumber M a0 a1)) := 
  Eq.trans (b := (brT (r_impl_BitsOf M a0) (brT (r_impl_BitsOf M a1) (some (F_impl_SameNumber (p_impl_BitsOf M a0 == p_impl_BitsOf M a1))) none) none)) (by kernel_rfl)
    ((pushL (pushL (fun _ => rfl))) h)
theorem ok_impl_SameNumber : OkFn Tryd.prog 146 (S_impl_SameNumber R) :=
  okFn_of (good_cons ok_impl_BitsOf good_nil) follows Tryd.func146 rfl (by decide) (by decide) lam_nil (m := 2) (fun _ => rfl) (by decide) (fun _ _ h => nomatch h) (fun _ _ h => nomatch h) (fun x hx => ⟨40, e_impl_SameNumber R x.1 x.2.1 hx⟩)

set_option maxRecDepth 100000 in
theorem e_impl_SamePlace (M : FOps) (a0_0 : Nat) (a0_1 : Nat) (a1_0 : Nat) (a1_1 : Nat) (h : r_impl_SamePlace M a0_0 a0_1 a1_0 a1_1 = true) : cwp M Tryd.prog (envOf [(146, S_impl_SameNumber M)]) (lamOf []) 40 (Tryd.f114.body.getD .skip) 0 (retK Tryd.prog Tryd.f114.results.toList (.cons (.one .bool) .nil) 0) (initSt (.cons (.agg (.pair (.fl .f32) (.fl .f32))) (.cons (.agg (.pair (.fl .f32) (.fl .f32))) .nil)) ((a0_0, a0_1), ((a1_0, a1_1), ()))) = some (F_impl_SamePlace (p_impl_SamePlace M a0_0 a0_1 a1_0 a1_1)) := 
  Eq.trans (b := (brT (r_impl_SameNumber M a0_0 a1_0) (brT (p_impl_SameNumber M a0_0 a1_0) (brT (r_impl_SameNumber M a0_1 a1_1) (some (F_impl_SamePlace (p_impl_SameNumber M a0_1 a1_1))) none) (some (F_impl_SamePlace (false)))) none)) (by kernel_rfl)
    ((pushL (pushR (pushL (fun _ => rfl)) (fun _ => rfl))) h)
theorem ok_impl_SamePlace : OkFn Tryd.prog 114 (S_impl_SamePlace R) :=
  okFn_of (good_cons ok_impl_SameNumber good_nil) follows Tryd.func114 rfl (by decide) (by decide) lam_nil (m := 2) (fun _ => rfl) (by decide) (fun _ _ h => nomatch h) (fun _ _ h => nomatch h) (fun x hx => ⟨40, e_impl_SamePlace R x.1.1 x.1.2 x.2.1.1 x.2.1.2 hx⟩)

set_option maxRecDepth 100000 in
theorem e_impl_isPacked (M : FOps) (a0_0 : Nat) (a0_1 : Nat) (h : r_impl_isPacked M a0_0 a0_1 = true) : cwp M Tryd.prog (envOf [(112, S_impl_StepsOf M), (113, S_impl_PlaceOfSteps M), (114, S_impl_SamePlace M)]) (lamOf []) 40 (Tryd.f70.body.getD .skip) 0 (retK Tryd.prog Tryd.f70.results.toList (.cons (.one .bool) .nil) 0) (initSt (.cons (.agg (.pair (.fl .f32) (.fl .f32))) .nil) ((a0_0, a0_1), ())) = some (F_impl_isPacked (p_impl_isPacked M a0_0 a0_1)) := 
  Eq.trans (b := (brT (r_impl_StepsOf M a0_0 a0_1) (brT ((c0_impl_isPacked M a0_0 a0_1).snd.snd) (brT ((c1_impl_isPacked M a0_0 a0_1).snd.snd) (brT (r_impl_SamePlace M a0_0 a0_1 (c1_impl_isPacked M a0_0 a0_1).fst (c1_impl_isPacked M a0_0 a0_1).snd.fst) (some (F_impl_isPacked (p_impl_SamePlace M a0_0 a0_1 (c1_impl_isPacked M a0_0 a0_1).fst (c1_impl_isPacked M a0_0 a0_1).snd.fst))) none) (some (F_impl_isPacked (false)))) (some (F_impl_isPacked (false)))) none)) (by kernel_rfl)
    ((pushL (pushR (pushR (pushL (fun _ => rfl)) (fun _ => rfl)) (fun _ => rfl))) h)
theorem ok_impl_isPacked : OkFn Tryd.prog 70 (S_impl_isPacked R) :=
  okFn_of (good_cons ok_impl_StepsOf (good_cons ok_impl_PlaceOfSteps (good_cons ok_impl_SamePlace good_nil))) follows Tryd.func70 rfl (by decide) (by decide) lam_nil (m := 1) (fun _ => rfl) (by decide) (fun _ _ h => nomatch h) (fun _ _ h => nomatch h) (fun x hx => ⟨40, e_impl_isPacked R x.1.1 x.1.2 hx⟩)

set_option maxRecDepth 100000 in
theorem e_impl_areAll_impl_Place_1 (M : FOps) (a0_0 : Nat) (a0_1 : Nat) (h : r_impl_areAll_impl_Place_1 M a0_0 a0_1 = true) : cwp M Tryd.prog (envOf [(70, S_impl_isPacked M)]) (lamOf []) 40 (Tryd.f111.body.getD .skip) 0 (retK Tryd.prog Tryd.f111.results.toList (.cons (.one .bool) .nil) 0) (initSt (.cons (.agg (.pair (.fl .f32) (.fl .f32))) (.cons (.pf 70) .nil)) ((a0_0, a0_1), ((), ()))) = some (F_impl_areAll_impl_Place_1 (p_impl_areAll_impl_Place_1 M a0_0 a0_1)) := 
  Eq.trans (b := (brT (r_impl_isPacked M a0_0 a0_1) (some (F_impl_areAll_impl_Place_1 (!p_impl_isPacked M a0_0 a0_1))) none)) (by kernel_rfl)
    ((pushL (fun _ => rfl)) h)
theorem ok_impl_areAll_impl_Place_1 : OkFn Tryd.prog 111 (S_impl_areAll_impl_Place_1 R) :=
  okFn_of (good_cons ok_impl_isPacked good_nil) follows Tryd.func111 rfl (by decide) (by decide) lam_nil (m := 2) (fun _ => rfl) (by decide) (fun _ _ h => nomatch h) (fun _ _ h => nomatch h) (fun x hx => ⟨40, e_impl_areAll_impl_Place_1 R x.1.1 x.1.2 hx⟩)

set_option maxRecDepth 100000 in
theorem hs_slices_IndexFunc_impl_Place_impl_Place_k_0 (M : FOps) (v0 : (List (Nat × Nat))) (v1 : Int) (v2 : Int) (v3 : Int) : cwp M Tryd.prog (envOf [(70, S_impl_isPacked M), (111, S_impl_areAll_impl_Place_1 M)]) (lamOf []) 40 ((loopsOf (Tryd.f144.body.getD .skip)).getD 0 .skip) 1 (stepK (.cons (.tv 0 true (.ls (.pair (.fl .f32) (.fl .f32)))) (.cons (.tg 1 111 [(.f 70)]) (.cons (.tv 7 false (.int .i64)) (.cons (.tv 8 false (.int .i64)) (.cons (.tv 4 false (.int .i64)) .nil))))) [(.ret, (.cons (.tv 4 false (.int .i64)) .nil)), ((.exit 0), (.cons (.tv 4 false (.int .i64)) .nil))]) (canon (.cons (.tv 0 true (.ls (.pair (.fl .f32) (.fl .f32)))) (.cons (.tg 1 111 [(.f 70)]) (.cons (.tv 7 false (.int .i64)) (.cons (.tv 8 false (.int .i64)) (.cons (.tv 4 false (.int .i64)) .nil))))) 0 0 (v0, (((), ()), (v1, (v2, (v3, ())))))) = st_slices_IndexFunc_impl_Place_impl_Place_k_0 M v0 v1 v2 v3 := by
  unfold st_slices_IndexFunc_impl_Place_impl_Place_k_0
  kernel_rfl
set_option maxRecDepth 100000 in
theorem lk_slices_IndexFunc_impl_Place_impl_Place_k_0 : LOk Tryd.prog Tryd.f144.ntmps ((loopsOf (Tryd.f144.body.getD .skip)).getD 0 .skip) (L_slices_IndexFunc_impl_Place_impl_Place_k_0 R) :=
  lok (F := 40) (Λ := lamOf []) (b := 1) (good_cons ok_impl_isPacked (good_cons ok_impl_areAll_impl_Place_1 good_nil)) follows (by kernel_rfl) (fun _ _ _ _ h => nomatch h) (by decide) (by decide) (by decide) (fun x => hs_slices_IndexFunc_impl_Place_impl_Place_k_0 R x.1 x.2.2.1 x.2.2.2.1 x.2.2.2.2.1)
set_option maxRecDepth 100000 in
theorem e_slices_IndexFunc_impl_Place_impl_Place_k (M : FOps) (a0 : (List (Nat × Nat))) (h : r_slices_IndexFunc_impl_Place_impl_Place_k M a0 = true) : cwp M Tryd.prog (envOf [(70, S_impl_isPacked M), (111, S_impl_areAll_impl_Place_1 M)]) (lamOf [(0, L_slices_IndexFunc_impl_Place_impl_Place_k_0 M)]) 40 (Tryd.f144.body.getD .skip) 0 (retK Tryd.prog Tryd.f144.results.toList (.cons (.one (.int .i64)) .nil) 0) (initSt (.cons (.one (.ls (.pair (.fl .f32) (.fl .f32)))) (.cons (.fn 111 (.cons (.pf 70) .nil)) .nil)) (a0, (((), ()), ()))) = some (F_slices_IndexFunc_impl_Place_impl_Place_k (p_slices_IndexFunc_impl_Place_impl_Place_k M a0)) := 
  Eq.trans (b := (brT ((c0_slices_IndexFunc_impl_Place_impl_Place_k M a0).isSome) (brT (isL ((c0_slices_IndexFunc_impl_Place_impl_Place_k M a0).getD (Sum.inl (0, ())))) (some (F_slices_IndexFunc_impl_Place_impl_Place_k ((getL (0, ()) ((c0_slices_IndexFunc_impl_Place_impl_Place_k M a0).getD (Sum.inl (0, ())))).fst))) (some (F_slices_IndexFunc_impl_Place_impl_Place_k (Int.negSucc 0)))) none)) (by kernel_rfl)
    ((pushL (fun _ => (push2 rfl rfl))) h)
theorem ok_slices_IndexFunc_impl_Place_impl_Place_k : OkFn Tryd.prog 144 (S_slices_IndexFunc_impl_Place_impl_Place_k R) :=
  okFn_of (good_cons ok_impl_isPacked (good_cons ok_impl_areAll_impl_Place_1 good_nil)) follows Tryd.func144 rfl (by decide) (by decide) (lam_cons (i := 0) (cc := (loopsOf (Tryd.f144.body.getD .skip)).getD 0 .skip) (by kernel_rfl) lk_slices_IndexFunc_impl_Place_impl_Place_k_0 lam_nil) (m := 2) (fun _ => rfl) (by decide) (fun _ _ h => nomatch h) (fun _ _ h => nomatch h) (fun x hx => ⟨40, e_slices_IndexFunc_impl_Place_impl_Place_k R x.1 hx⟩)

set_option maxRecDepth 100000 in
theorem e_slices_ContainsFunc_impl_Place_impl_Place_k (M : FOps) (a0 : (List (Nat × Nat))) (h : r_slices_ContainsFunc_impl_Place_impl_Place_k M a0 = true) : cwp M Tryd.prog (envOf [(70, S_impl_isPacked M), (111, S_impl_areAll_impl_Place_1 M), (144, S_slices_IndexFunc_impl_Place_impl_Place_k M)]) (lamOf []) 40 (Tryd.f110.body.getD .skip) 0 (retK Tryd.prog Tryd.f110.results.toList (.cons (.one .bool) .nil) 0) (initSt (.cons (.one (.ls (.pair (.fl .f32) (.fl .f32)))) (.cons (.fn 111 (.cons (.pf 70) .nil)) .nil)) (a0, (((), ()), ()))) = some (F_slices_ContainsFunc_impl_Place_impl_Place_k (p_slices_ContainsFunc_impl_Place_impl_Place_k M a0)) := 
  Eq.trans (b := (brT (r_slices_IndexFunc_impl_Place_impl_Place_k M a0) (some (F_slices_ContainsFunc_impl_Place_impl_Place_k (decide ((c0_slices_ContainsFunc_impl_Place_impl_Place_k M a0) ≥ 0)))) none)) (by kernel_rfl)
    ((pushL (fun _ => rfl)) h)
theorem ok_slices_ContainsFunc_impl_Place_impl_Place_k : OkFn Tryd.prog 110 (S_slices_ContainsFunc_impl_Place_impl_Place_k R) :=
  okFn_of (good_cons ok_impl_isPacked (good_cons ok_impl_areAll_impl_Place_1 (good_cons ok_slices_IndexFunc_impl_Place_impl_Place_k good_nil))) follows Tryd.func110 rfl (by decide) (by decide) lam_nil (m := 2) (fun _ => rfl) (by decide) (fun _ _ h => nomatch h) (fun _ _ h => nomatch h) (fun x hx => ⟨40, e_slices_ContainsFunc_impl_Place_impl_Place_k R x.1 hx⟩)

set_option maxRecDepth 100000 in
theorem e_impl_areAll_impl_Place (M : FOps) (a0 : (List (Nat × Nat))) (h : r_impl_areAll_impl_Place M a0 = true) : cwp M Tryd.prog (envOf [(70, S_impl_isPacked M), (110, S_slices_ContainsFunc_impl_Place_impl_Place_k M), (111, S_impl_areAll_impl_Place_1 M)]) (lamOf []) 40 (Tryd.f69.body.getD .skip) 0 (retK Tryd.prog Tryd.f69.results.toList (.cons (.one .bool) .nil) 0) (initSt (.cons (.one (.ls (.pair (.fl .f32) (.fl .f32)))) (.cons (.fn 70 .nil) .nil)) (a0, ((), ()))) = some (F_impl_areAll_impl_Place (p_impl_areAll_impl_Place M a0)) := 
  Eq.trans (b := (brT (r_slices_ContainsFunc_impl_Place_impl_Place_k M a0) (some (F_impl_areAll_impl_Place (!p_slices_ContainsFunc_impl_Place_impl_Place_k M a0))) none)) (by kernel_rfl)
    ((pushL (fun _ => rfl)) h)
theorem ok_impl_areAll_impl_Place : OkFn Tryd.prog 69 (S_impl_areAll_impl_Place R) :=
  okFn_of (good_cons ok_impl_isPacked (good_cons ok_slices_ContainsFunc_impl_Place_impl_Place_k (good_cons ok_impl_areAll_impl_Place_1 good_nil))) follows Tryd.func69 rfl (by decide) (by decide) lam_nil (m := 2) (fun _ => rfl) (by decide) (fun _ _ h => nomatch h) (fun _ _ h => nomatch h) (fun x hx => ⟨40, e_impl_areAll_impl_Place R x.1 hx⟩)

set_option maxRecDepth 100000 in
theorem e_impl_ArePacked (M : FOps) (a0 : (List (Nat × Nat))) (h : r_impl_ArePacked M a0 = true) : cwp M Tryd.prog (envOf [(47, S_impl_ArePlaces M), (69, S_impl_areAll_impl_Place M), (70, S_impl_isPacked M)]) (lamOf []) 40 (Tryd.f43.body.getD .skip) 0 (retK Tryd.prog Tryd.f43.results.toList (.cons (.one .bool) .nil) 0) (initSt (.cons (.one (.ls (.pair (.fl .f32) (.fl .f32)))) .nil) (a0, ())) = some (F_impl_ArePacked (p_impl_ArePacked M a0)) := 
  Eq.trans (b := (brT (decide (a0.length < 4611686018427387904)) (brT ((a0.all fun x => p_impl_ValidPlace M x.fst x.snd) && (decide (1 ≤ a0.length) && decide (a0.length ≤ 64))) (brT (r_impl_areAll_impl_Place M a0) (some (F_impl_ArePacked (p_impl_areAll_impl_Place M a0))) none) (some (F_impl_ArePacked (false)))) none)) (by kernel_rfl)
    ((pushL (pushR (pushL (fun _ => rfl)) (fun _ => rfl))) h)
theorem ok_impl_ArePacked : OkFn Tryd.prog 43 (S_impl_ArePacked R) :=
  okFn_of (good_cons ok_impl_ArePlaces (good_cons ok_impl_areAll_impl_Place (good_cons ok_impl_isPacked good_nil))) follows Tryd.func43 rfl (by decide) (by decide) lam_nil (m := 1) (fun _ => rfl) (by decide) (fun _ _ h => nomatch h) (fun _ _ h => nomatch h) (fun x hx => ⟨40, e_impl_ArePacked R x.1 hx⟩)

set_option maxRecDepth 100000 in
theorem e_impl_ValidTrack (M : FOps) (a0_0 : ByteArray) (a0_1 : (List (Nat × Nat))) (h : r_impl_ValidTrack M a0_0 a0_1 = true) : cwp M Tryd.prog (envOf [(42, S_impl_IsName M), (43, S_impl_ArePacked M)]) (lamOf []) 40 (Tryd.f13.body.getD .skip) 0 (retK Tryd.prog Tryd.f13.results.toList (.cons (.one .bool) .nil) 0) (initSt (.cons (.agg (.pair .str (.ls (.pair (.fl .f32) (.fl .f32))))) .nil) ((a0_0, a0_1), ())) = some (F_impl_ValidTrack (p_impl_ValidTrack M a0_0 a0_1)) := 
  Eq.trans (b := (brT (r_impl_IsName M a0_0) (brT (p_impl_IsName M a0_0) (brT (r_impl_ArePacked M a0_1) (some (F_impl_ValidTrack (p_impl_ArePacked M a0_1))) none) (some (F_impl_ValidTrack (false)))) none)) (by kernel_rfl)
    ((pushL (pushR (pushL (fun _ => rfl)) (fun _ => rfl))) h)
theorem ok_impl_ValidTrack : OkFn Tryd.prog 13 (S_impl_ValidTrack R) :=
  okFn_of (good_cons ok_impl_IsName (good_cons ok_impl_ArePacked good_nil)) follows Tryd.func13 rfl (by decide) (by decide) lam_nil (m := 1) (fun _ => rfl) (by decide) (fun _ _ h => nomatch h) (fun _ _ h => nomatch h) (fun x hx => ⟨40, e_impl_ValidTrack R x.1.1 x.1.2 hx⟩)

set_option maxRecDepth 100000 in
theorem e_laws_eqTrack (M : FOps) (a0_0 : ByteArray) (a0_1 : (List (Nat × Nat))) (a1_0 : ByteArray) (a1_1 : (List (Nat × Nat))) (h : r_laws_eqTrack M a0_0 a0_1 a1_0 a1_1 = true) : cwp M Tryd.prog (envOf [(19, S_laws_eqPlaceS M)]) (lamOf []) 40 (Tryd.f14.body.getD .skip) 0 (retK Tryd.prog Tryd.f14.results.toList (.cons (.one .bool) .nil) 0) (initSt (.cons (.agg (.pair .str (.ls (.pair (.fl .f32) (.fl .f32))))) (.cons (.agg (.pair .str (.ls (.pair (.fl .f32) (.fl .f32))))) .nil)) ((a0_0, a0_1), ((a1_0, a1_1), ()))) = some (F_laws_eqTrack (p_laws_eqTrack M a0_0 a0_1 a1_0 a1_1)) := 
  Eq.trans (b := (brT (!a0_0.toList == a1_0.toList) (some (F_laws_eqTrack (false))) (brT (decide (a0_1.length < 4611686018427387904)) (brT (!p_laws_eqPlaceS M a0_1 a1_1) (some (F_laws_eqTrack (false))) (some (F_laws_eqTrack (true)))) none))) (by kernel_rfl)
    ((pushR (fun _ => rfl) (pushL (fun _ => (push2 rfl rfl)))) h)
theorem ok_laws_eqTrack : OkFn Tryd.prog 14 (S_laws_eqTrack R) :=
  okFn_of (good_cons ok_laws_eqPlaceS good_nil) follows Tryd.func14 rfl (by decide) (by decide) lam_nil (m := 2) (fun _ => rfl) (by decide) (fun _ _ h => nomatch h) (fun _ _ h => nomatch h) (fun x hx => ⟨40, e_laws_eqTrack R x.1.1 x.1.2 x.2.1.1 x.2.1.2 hx⟩)

end Go.Proofs.YtbgpobiaaebbeaaDoor
