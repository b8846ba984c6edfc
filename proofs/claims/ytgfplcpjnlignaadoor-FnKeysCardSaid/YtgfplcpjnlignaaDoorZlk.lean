/- Printed by gen2.py. -/
import Derived.Test.YtgfplcpjnlignaaDoorWlk
import Derived.Test.YtgfplcpjnlignaaDoorZkh
import Derived.Test.YtgfplcpjnlignaaDoorZla
import Derived.Test.YtgfplcpjnlignaaDoorZlj

set_option linter.unusedVariables false
set_option linter.unusedSimpArgs false

-- GENERATED BELOW (gen.py)
namespace Go.Proofs.YtgfplcpjnlignaaDoor
open Go Go.Cv Go.Dv
set_option maxRecDepth 100000 in
theorem e_spec_B10Place (M : FOps) (a0 : (List Int)) (h : r_spec_B10Place M a0 = true) : cwp M Tryd.prog (envOf [(23, S_spec_l00From M), (24, S_spec_l00Src_pick M)]) (lamOf []) 40 (Tryd.f14.body.getD .skip) 0 (retK Tryd.prog Tryd.f14.results.toList (.cons (.agg (.pair (.fl .f32) (.fl .f32))) .nil) 0) (initSt (.cons (.fz (.ls (.int .u8))) .nil) (a0, ())) = some (F_spec_B10Place (p_spec_B10Place M a0)) := 
  Eq.trans (b := (brT (r_spec_l00Src_pick M (c0_spec_B10Place M a0).fst (c0_spec_B10Place M a0).snd.fst (c0_spec_B10Place M a0).snd.snd 49) (brT (r_spec_l00Src_pick M (c1_spec_B10Place M a0).snd.fst (c1_spec_B10Place M a0).snd.snd.fst (c1_spec_B10Place M a0).snd.snd.snd 128) (some (F_spec_B10Place ((M.bin BinOp.quo FloatKind.f32 (M.ofi FloatKind.f32 (IntKind.i64.wrap ((c1_spec_B10Place M a0).fst - 24))) 1124073472, M.bin BinOp.quo FloatKind.f32 (M.ofi FloatKind.f32 (IntKind.i64.wrap ((p_spec_l00Src_pick M (c1_spec_B10Place M a0).snd.fst (c1_spec_B10Place M a0).snd.snd.fst (c1_spec_B10Place M a0).snd.snd.snd 128).fst - 64))) 1124073472)))) none) none)) (by kernel_rfl)
    ((pushL (pushL (fun _ => rfl))) h)
theorem ok_spec_B10Place : OkFn Tryd.prog 14 (S_spec_B10Place R) :=
  okFn_of (good_cons ok_spec_l00From (good_cons ok_spec_l00Src_pick good_nil)) follows Tryd.func14 rfl (by decide) (by decide) lam_nil (m := 1) (fun _ => rfl) (by decide) (fun _ _ h => nomatch h) (fun _ _ h => nomatch h) (fun x hx => ⟨40, e_spec_B10Place R x.1 hx⟩)

set_option maxRecDepth 100000 in
theorem e_impl_isZoom (M : FOps) (a0 : Int) : cwp M Tryd.prog (envOf [(41, S_impl_within M)]) (lamOf []) 40 (Tryd.f37.body.getD .skip) 0 (retK Tryd.prog Tryd.f37.results.toList (.cons (.one .bool) .nil) 0) (initSt (.cons (.one (.int .i64)) .nil) (a0, ())) = some (F_impl_isZoom (p_impl_isZoom M a0)) := by kernel_rfl
theorem ok_impl_isZoom : OkFn Tryd.prog 37 (S_impl_isZoom R) :=
  okFn_of (good_cons ok_impl_within good_nil) follows Tryd.func37 rfl (by decide) (by decide) lam_nil (m := 1) (fun _ => rfl) (by decide) (fun _ _ h => nomatch h) (fun _ _ h => nomatch h) (fun x _ => ⟨40, e_impl_isZoom R x.1⟩)

set_option maxRecDepth 100000 in
theorem hs_impl_tileKey_0 (M : FOps) (v0 : Int) (v1 : Int) (v2 : Int) (v3 : (List Int)) (v4 : Int) (v5 : Int) (v6 : ByteArray) : cwp M Tryd.prog (envOf []) (lamOf []) 40 ((loopsOf (Tryd.f39.body.getD .skip)).getD 0 .skip) 1 (stepK (.cons (.tv 0 false (.int .i64)) (.cons (.tv 1 false (.int .i64)) (.cons (.tv 2 false (.int .i64)) (.cons (.to 7 0 (.int .u8)) (.cons (.tv 13 false (.int .i64)) (.cons (.tv 14 false (.int .i64)) (.cons (.tv 6 false .str) .nil))))))) [((.exit 0), (.cons (.to 7 0 (.int .u8)) (.cons (.tv 6 false .str) .nil)))]) (canon (.cons (.tv 0 false (.int .i64)) (.cons (.tv 1 false (.int .i64)) (.cons (.tv 2 false (.int .i64)) (.cons (.to 7 0 (.int .u8)) (.cons (.tv 13 false (.int .i64)) (.cons (.tv 14 false (.int .i64)) (.cons (.tv 6 false .str) .nil))))))) 1 0 (v0, (v1, (v2, (v3, (v4, (v5, (v6, ())))))))) = st_impl_tileKey_0 M v0 v1 v2 v3 v4 v5 v6 := by
  unfold st_impl_tileKey_0
  kernel_rfl
set_option maxRecDepth 100000 in
theorem lk_impl_tileKey_0 : LOk Tryd.prog Tryd.f39.ntmps ((loopsOf (Tryd.f39.body.getD .skip)).getD 0 .skip) (L_impl_tileKey_0 R) :=
  lok (F := 40) (Λ := lamOf []) (b := 1) good_nil follows (by kernel_rfl) (fun _ _ _ _ h => nomatch h) (by decide) (by decide) (by decide) (fun x => hs_impl_tileKey_0 R x.1 x.2.1 x.2.2.1 x.2.2.2.1 x.2.2.2.2.1 x.2.2.2.2.2.1 x.2.2.2.2.2.2.1)
set_option maxRecDepth 100000 in
theorem e_impl_tileKey (M : FOps) (a0 : Int) (a1 : Int) (a2 : Int) (h : r_impl_tileKey M a0 a1 a2 = true) : cwp M Tryd.prog (envOf []) (lamOf [(0, L_impl_tileKey_0 M)]) 40 (Tryd.f39.body.getD .skip) 0 (retK Tryd.prog Tryd.f39.results.toList (.cons (.one .str) .nil) 0) (initSt (.cons (.one (.int .i64)) (.cons (.one (.int .i64)) (.cons (.one (.int .i64)) .nil))) (a0, (a1, (a2, ())))) = some (F_impl_tileKey (p_impl_tileKey M a0 a1 a2)) := 
  Eq.trans (b := (brT (decide (0 ≤ a0) && decide (a0 ≤ a0) && decide (a0 ≤ Int.ofNat 1073741824)) (brT ((List.replicate a0.toNat (0 : Int)).length.beq (List.replicate a0.toNat (0 : Int)).length && true) (brT ((c0_impl_tileKey M a0 a1 a2).isSome) (brT ((List.length ((c0_impl_tileKey M a0 a1 a2).getD ([], (ByteArray.mk #[]), ())).fst).beq (List.length ((c0_impl_tileKey M a0 a1 a2).getD ([], (ByteArray.mk #[]), ())).fst)) (some (F_impl_tileKey (p_bytes ((c0_impl_tileKey M a0 a1 a2).getD ([], (ByteArray.mk #[]), ())).fst))) none) none) none) none)) (by kernel_rfl)
    ((pushL (pushL (pushL (fun _ => (pushT beq_self_eq rfl))))) h)
theorem ok_impl_tileKey : OkFn Tryd.prog 39 (S_impl_tileKey R) :=
  okFn_of good_nil follows Tryd.func39 rfl (by decide) (by decide) (lam_cons (i := 0) (cc := (loopsOf (Tryd.f39.body.getD .skip)).getD 0 .skip) (by kernel_rfl) lk_impl_tileKey_0 lam_nil) (m := 3) (fun _ => rfl) (by decide) (fun _ _ h => nomatch h) (fun _ _ h => nomatch h) (fun x hx => ⟨40, e_impl_tileKey R x.1 x.2.1 x.2.2.1 hx⟩)

set_option maxRecDepth 100000 in
theorem e_impl_tileOf (M : FOps) (a0_0 : Nat) (a0_1 : Nat) (a1 : Int) (h : r_impl_tileOf M a0_0 a0_1 a1 = true) : cwp M Tryd.prog (envOf [(63, S_impl_StepsOf M)]) (lamOf []) 40 (Tryd.f38.body.getD .skip) 0 (retK Tryd.prog Tryd.f38.results.toList (.cons (.one (.int .i64)) (.cons (.one (.int .i64)) .nil)) 0) (initSt (.cons (.agg (.pair (.fl .f32) (.fl .f32))) (.cons (.one (.int .i64)) .nil)) ((a0_0, a0_1), (a1, ()))) = some (F_impl_tileOf (p_impl_tileOf M a0_0 a0_1 a1)) := 
  Eq.trans (b := (brT (r_impl_StepsOf M a0_0 a0_1) (brT (decide (0 ≤ IntKind.i64.wrap (24 - a1)) && decide (IntKind.i64.wrap (24 - a1) ≤ Int.ofNat 64)) (brT (decide (0 ≤ IntKind.i64.wrap (24 - a1)) && decide (IntKind.i64.wrap (24 - a1) ≤ Int.ofNat 64)) (some (F_impl_tileOf ((IntKind.i64.wrap ((c0_impl_tileOf M a0_0 a0_1 a1).snd.fst + 8388608) / 2 ^ (IntKind.i64.wrap (24 - a1)).toNat, (bif decide (16777215 < IntKind.i64.wrap (IntKind.i64.wrap (2 * (c0_impl_tileOf M a0_0 a0_1 a1).fst) + 8388608)) then 16777215 else IntKind.i64.wrap (IntKind.i64.wrap (2 * (c0_impl_tileOf M a0_0 a0_1 a1).fst) + 8388608)) / 2 ^ (IntKind.i64.wrap (24 - a1)).toNat)))) none) none) none)) (by kernel_rfl)
    ((pushL (pushL (pushL (fun _ => rfl)))) h)
theorem ok_impl_tileOf : OkFn Tryd.prog 38 (S_impl_tileOf R) :=
  okFn_of (good_cons ok_impl_StepsOf good_nil) follows Tryd.func38 rfl (by decide) (by decide) lam_nil (m := 2) (fun _ => rfl) (by decide) (fun _ _ h => nomatch h) (fun _ _ h => nomatch h) (fun x hx => ⟨40, e_impl_tileOf R x.1.1 x.1.2 x.2.1 hx⟩)

set_option maxRecDepth 100000 in
theorem e_impl_KeyOf (M : FOps) (a0_0 : Nat) (a0_1 : Nat) (a1 : Int) (h : r_impl_KeyOf M a0_0 a0_1 a1 = true) : cwp M Tryd.prog (envOf [(36, S_impl_ValidPlace M), (37, S_impl_isZoom M), (38, S_impl_tileOf M), (39, S_impl_tileKey M)]) (lamOf []) 40 (Tryd.f15.body.getD .skip) 0 (retK Tryd.prog Tryd.f15.results.toList (.cons (.one .str) (.cons (.one .bool) .nil)) 0) (initSt (.cons (.agg (.pair (.fl .f32) (.fl .f32))) (.cons (.one (.int .i64)) .nil)) ((a0_0, a0_1), (a1, ()))) = some (F_impl_KeyOf (p_impl_KeyOf M a0_0 a0_1 a1)) := 
  Eq.trans (b := (brT (!p_impl_ValidPlace M a0_0 a0_1) (some (F_impl_KeyOf (((ByteArray.mk #[]), false)))) (brT (!p_impl_isZoom M a1) (some (F_impl_KeyOf (((ByteArray.mk #[]), false)))) (brT (r_impl_tileOf M a0_0 a0_1 a1) (brT (r_impl_tileKey M a1 (c0_impl_KeyOf M a0_0 a0_1 a1).fst (c0_impl_KeyOf M a0_0 a0_1 a1).snd) (some (F_impl_KeyOf ((p_impl_tileKey M a1 (c0_impl_KeyOf M a0_0 a0_1 a1).fst (c0_impl_KeyOf M a0_0 a0_1 a1).snd, true)))) none) none)))) (by kernel_rfl)
    ((pushR (fun _ => rfl) (pushR (fun _ => rfl) (pushL (pushL (fun _ => rfl))))) h)
theorem ok_impl_KeyOf : OkFn Tryd.prog 15 (S_impl_KeyOf R) :=
  okFn_of (good_cons ok_impl_ValidPlace (good_cons ok_impl_isZoom (good_cons ok_impl_tileOf (good_cons ok_impl_tileKey good_nil)))) follows Tryd.func15 rfl (by decide) (by decide) lam_nil (m := 2) (fun _ => rfl) (by decide) (fun _ _ h => nomatch h) (fun _ _ h => nomatch h) (fun x hx => ⟨40, e_impl_KeyOf R x.1.1 x.1.2 x.2.1 hx⟩)

set_option maxRecDepth 100000 in
theorem e_impl_IsKey (M : FOps) (a0 : ByteArray) (h : r_impl_IsKey M a0 = true) : cwp M Tryd.prog (envOf [(44, S_strings_Trim M)]) (lamOf []) 40 (Tryd.f19.body.getD .skip) 0 (retK Tryd.prog Tryd.f19.results.toList (.cons (.one .bool) .nil) 0) (initSt (.cons (.one .str) .nil) (a0, ())) = some (F_impl_IsKey (p_impl_IsKey M a0)) := 
  Eq.trans (b := (brT (decide ((↑a0.size : Int) ≤ 20)) (brT (r_strings_Trim M a0 (ByteArray.mk #[48, 49, 50, 51])) (some (F_impl_IsKey ((p_strings_Trim M a0 (ByteArray.mk #[48, 49, 50, 51])).toList == (ByteArray.mk #[]).toList))) none) (some (F_impl_IsKey (false))))) (by kernel_rfl)
    ((pushR (pushL (fun _ => rfl)) (fun _ => rfl)) h)
theorem ok_impl_IsKey : OkFn Tryd.prog 19 (S_impl_IsKey R) :=
  okFn_of (good_cons ok_strings_Trim good_nil) follows Tryd.func19 rfl (by decide) (by decide) lam_nil (m := 1) (fun _ => rfl) (by decide) (fun _ _ h => nomatch h) (fun _ _ h => nomatch h) (fun x hx => ⟨40, e_impl_IsKey R x.1 hx⟩)

set_option maxRecDepth 100000 in
theorem hs_impl_keyTile_0 (M : FOps) (v0 : ByteArray) (v1 : Int) (v2 : Int) (v3 : Int) (v4 : Int) (v5 : Int) (v6 : Int) : cwp M Tryd.prog (envOf []) (lamOf []) 40 ((loopsOf (Tryd.f40.body.getD .skip)).getD 0 .skip) 1 (stepK (.cons (.tv 0 false .str) (.cons (.tv 4 false (.int .i64)) (.cons (.tv 5 false (.int .i64)) (.cons (.tv 9 false (.int .i64)) (.cons (.tv 10 false (.int .i64)) (.cons (.tv 2 false (.int .i64)) (.cons (.tv 3 false (.int .i64)) .nil))))))) [((.exit 0), (.cons (.tv 4 false (.int .i64)) (.cons (.tv 5 false (.int .i64)) (.cons (.tv 2 false (.int .i64)) (.cons (.tv 3 false (.int .i64)) .nil)))))]) (canon (.cons (.tv 0 false .str) (.cons (.tv 4 false (.int .i64)) (.cons (.tv 5 false (.int .i64)) (.cons (.tv 9 false (.int .i64)) (.cons (.tv 10 false (.int .i64)) (.cons (.tv 2 false (.int .i64)) (.cons (.tv 3 false (.int .i64)) .nil))))))) 0 0 (v0, (v1, (v2, (v3, (v4, (v5, (v6, ())))))))) = st_impl_keyTile_0 M v0 v1 v2 v3 v4 v5 v6 := by
  unfold st_impl_keyTile_0
  kernel_rfl
set_option maxRecDepth 100000 in
theorem lk_impl_keyTile_0 : LOk Tryd.prog Tryd.f40.ntmps ((loopsOf (Tryd.f40.body.getD .skip)).getD 0 .skip) (L_impl_keyTile_0 R) :=
  lok (F := 40) (Λ := lamOf []) (b := 1) good_nil follows (by kernel_rfl) (fun _ _ _ _ h => nomatch h) (by decide) (by decide) (by decide) (fun x => hs_impl_keyTile_0 R x.1 x.2.1 x.2.2.1 x.2.2.2.1 x.2.2.2.2.1 x.2.2.2.2.2.1 x.2.2.2.2.2.2.1)
set_option maxRecDepth 100000 in
theorem e_impl_keyTile (M : FOps) (a0 : ByteArray) (h : r_impl_keyTile M a0 = true) : cwp M Tryd.prog (envOf []) (lamOf [(0, L_impl_keyTile_0 M)]) 40 (Tryd.f40.body.getD .skip) 0 (retK Tryd.prog Tryd.f40.results.toList (.cons (.one (.int .i64)) (.cons (.one (.int .i64)) .nil)) 0) (initSt (.cons (.one .str) .nil) (a0, ())) = some (F_impl_keyTile (p_impl_keyTile M a0)) := 
  Eq.trans (b := (brT ((c0_impl_keyTile M a0).isSome) (some (F_impl_keyTile ((((c0_impl_keyTile M a0).getD (0, 0, 0, 0, ())).fst, ((c0_impl_keyTile M a0).getD (0, 0, 0, 0, ())).snd.fst)))) none)) (by kernel_rfl)
    ((pushL (fun _ => rfl)) h)
theorem ok_impl_keyTile : OkFn Tryd.prog 40 (S_impl_keyTile R) :=
  okFn_of good_nil follows Tryd.func40 rfl (by decide) (by decide) (lam_cons (i := 0) (cc := (loopsOf (Tryd.f40.body.getD .skip)).getD 0 .skip) (by kernel_rfl) lk_impl_keyTile_0 lam_nil) (m := 1) (fun _ => rfl) (by decide) (fun _ _ h => nomatch h) (fun _ _ h => nomatch h) (fun x hx => ⟨40, e_impl_keyTile R x.1 hx⟩)

set_option maxRecDepth 100000 in
theorem e_impl_KeyTile (M : FOps) (a0 : ByteArray) (h : r_impl_KeyTile M a0 = true) : cwp M Tryd.prog (envOf [(19, S_impl_IsKey M), (40, S_impl_keyTile M)]) (lamOf []) 40 (Tryd.f16.body.getD .skip) 0 (retK Tryd.prog Tryd.f16.results.toList (.cons (.one (.int .i64)) (.cons (.one (.int .i64)) (.cons (.one .bool) .nil))) 0) (initSt (.cons (.one .str) .nil) (a0, ())) = some (F_impl_KeyTile (p_impl_KeyTile M a0)) := 
  Eq.trans (b := (brT (r_impl_IsKey M a0) (brT (!p_impl_IsKey M a0) (some (F_impl_KeyTile ((0, 0, false)))) (brT (r_impl_keyTile M a0) (some (F_impl_KeyTile (((c0_impl_KeyTile M a0).fst, (c0_impl_KeyTile M a0).snd, true)))) none)) none)) (by kernel_rfl)
    ((pushL (pushR (fun _ => rfl) (pushL (fun _ => rfl)))) h)
theorem ok_impl_KeyTile : OkFn Tryd.prog 16 (S_impl_KeyTile R) :=
  okFn_of (good_cons ok_impl_IsKey (good_cons ok_impl_keyTile good_nil)) follows Tryd.func16 rfl (by decide) (by decide) lam_nil (m := 1) (fun _ => rfl) (by decide) (fun _ _ h => nomatch h) (fun _ _ h => nomatch h) (fun x hx => ⟨40, e_impl_KeyTile R x.1 hx⟩)

set_option maxRecDepth 100000 in
theorem e_impl_TileKey (M : FOps) (a0 : Int) (a1 : Int) (a2 : Int) (h : r_impl_TileKey M a0 a1 a2 = true) : cwp M Tryd.prog (envOf [(37, S_impl_isZoom M), (39, S_impl_tileKey M), (41, S_impl_within M)]) (lamOf []) 40 (Tryd.f17.body.getD .skip) 0 (retK Tryd.prog Tryd.f17.results.toList (.cons (.one .str) (.cons (.one .bool) .nil)) 0) (initSt (.cons (.one (.int .i64)) (.cons (.one (.int .i64)) (.cons (.one (.int .i64)) .nil))) (a0, (a1, (a2, ())))) = some (F_impl_TileKey (p_impl_TileKey M a0 a1 a2)) := 
  Eq.trans (b := (brT (!p_impl_isZoom M a0) (some (F_impl_TileKey (((ByteArray.mk #[]), false)))) (brT (decide (0 ≤ a0) && decide (a0 ≤ Int.ofNat 64)) (brT (!p_impl_within M a1 0 (IntKind.i64.wrap (IntKind.i64.wrap (1 * 2 ^ a0.toNat) - 1))) (some (F_impl_TileKey (((ByteArray.mk #[]), false)))) (brT (decide (0 ≤ a0) && decide (a0 ≤ Int.ofNat 64)) (brT (!p_impl_within M a2 0 (IntKind.i64.wrap (IntKind.i64.wrap (1 * 2 ^ a0.toNat) - 1))) (some (F_impl_TileKey (((ByteArray.mk #[]), false)))) (brT (r_impl_tileKey M a0 a1 a2) (some (F_impl_TileKey ((p_impl_tileKey M a0 a1 a2, true)))) none)) none)) none))) (by kernel_rfl)
    ((pushR (fun _ => rfl) (pushL (pushR (fun _ => rfl) (pushL (pushR (fun _ => rfl) (pushL (fun _ => rfl))))))) h)
theorem ok_impl_TileKey : OkFn Tryd.prog 17 (S_impl_TileKey R) :=
  okFn_of (good_cons ok_impl_isZoom (good_cons ok_impl_tileKey (good_cons ok_impl_within good_nil))) follows Tryd.func17 rfl (by decide) (by decide) lam_nil (m := 3) (fun _ => rfl) (by decide) (fun _ _ h => nomatch h) (fun _ _ h => nomatch h) (fun x hx => ⟨40, e_impl_TileKey R x.1 x.2.1 x.2.2.1 hx⟩)

set_option maxRecDepth 100000 in
theorem e_impl_KeyBox_1 (M : FOps) (a0 : Int) (a1 : Int) : cwp M Tryd.prog (envOf [(43, S_impl_PlaceOfSteps M)]) (lamOf []) 40 (Tryd.f42.body.getD .skip) 0 (retK Tryd.prog Tryd.f42.results.toList (.cons (.agg (.pair (.fl .f32) (.fl .f32))) (.cons (.one .bool) .nil)) 0) (initSt (.cons (.one (.int .i64)) (.cons (.one (.int .i64)) .nil)) (a0, (a1, ()))) = some (F_impl_KeyBox_1 (p_impl_KeyBox_1 M a0 a1)) := by kernel_rfl
theorem ok_impl_KeyBox_1 : OkFn Tryd.prog 42 (S_impl_KeyBox_1 R) :=
  okFn_of (good_cons ok_impl_PlaceOfSteps good_nil) follows Tryd.func42 rfl (by decide) (by decide) lam_nil (m := 2) (fun _ => rfl) (by decide) (fun _ _ h => nomatch h) (fun _ _ h => nomatch h) (fun x _ => ⟨40, e_impl_KeyBox_1 R x.1 x.2.1⟩)

set_option maxRecDepth 100000 in
theorem e_impl_KeyBox (M : FOps) (a0 : ByteArray) (h : r_impl_KeyBox M a0 = true) : cwp M Tryd.prog (envOf [(19, S_impl_IsKey M), (40, S_impl_keyTile M), (42, S_impl_KeyBox_1 M)]) (lamOf []) 40 (Tryd.f18.body.getD .skip) 0 (retK Tryd.prog Tryd.f18.results.toList (.cons (.agg (.pair (.fl .f32) (.fl .f32))) (.cons (.agg (.pair (.fl .f32) (.fl .f32))) (.cons (.one .bool) .nil))) 0) (initSt (.cons (.one .str) .nil) (a0, ())) = some (F_impl_KeyBox (p_impl_KeyBox M a0)) := 
  Eq.trans (b := (brT (r_impl_IsKey M a0) (brT (!p_impl_IsKey M a0) (some (F_impl_KeyBox ((0, 0, 0, 0, false)))) (brT (r_impl_keyTile M a0) (brT (decide (0 ≤ IntKind.i64.wrap (24 - (↑a0.size : Int))) && decide (IntKind.i64.wrap (24 - (↑a0.size : Int)) ≤ Int.ofNat 64)) (brT (!(c1_impl_KeyBox M a0).snd.snd) (some (F_impl_KeyBox ((0, 0, 0, 0, false)))) (brT (!(c2_impl_KeyBox M a0).snd.snd) (some (F_impl_KeyBox ((0, 0, 0, 0, false)))) (some (F_impl_KeyBox (((c1_impl_KeyBox M a0).fst, (c1_impl_KeyBox M a0).snd.fst, (c2_impl_KeyBox M a0).fst, (c2_impl_KeyBox M a0).snd.fst, true)))))) none) none)) none)) (by kernel_rfl)
    ((pushL (pushR (fun _ => rfl) (pushL (pushL (fun _ => (push2 rfl (push2 rfl rfl))))))) h)
theorem ok_impl_KeyBox : OkFn Tryd.prog 18 (S_impl_KeyBox R) :=
  okFn_of (good_cons ok_impl_IsKey (good_cons ok_impl_keyTile (good_cons ok_impl_KeyBox_1 good_nil))) follows Tryd.func18 rfl (by decide) (by decide) lam_nil (m := 1) (fun _ => rfl) (by decide) (fun _ _ h => nomatch h) (fun _ _ h => nomatch h) (fun x hx => ⟨40, e_impl_KeyBox R x.1 hx⟩)

set_option maxRecDepth 100000 in
theorem e_impl_KeyBeside (M : FOps) (a0 : ByteArray) (a1 : Int) (a2 : Int) (h : r_impl_KeyBeside M a0 a1 a2 = true) : cwp M Tryd.prog (envOf [(17, S_impl_TileKey M), (19, S_impl_IsKey M), (40, S_impl_keyTile M), (41, S_impl_within M)]) (lamOf []) 40 (Tryd.f21.body.getD .skip) 0 (retK Tryd.prog Tryd.f21.results.toList (.cons (.one .str) (.cons (.one .bool) .nil)) 0) (initSt (.cons (.one .str) (.cons (.one (.int .i64)) (.cons (.one (.int .i64)) .nil))) (a0, (a1, (a2, ())))) = some (F_impl_KeyBeside (p_impl_KeyBeside M a0 a1 a2)) := 
  Eq.trans (b := (brT (r_impl_IsKey M a0) (brT (!p_impl_IsKey M a0) (some (F_impl_KeyBeside (((ByteArray.mk #[]), false)))) (brT (!p_impl_within M a1 (Int.negSucc 999999) 1000000) (some (F_impl_KeyBeside (((ByteArray.mk #[]), false)))) (brT (!p_impl_within M a2 (Int.negSucc 999999) 1000000) (some (F_impl_KeyBeside (((ByteArray.mk #[]), false)))) (brT (r_impl_keyTile M a0) (brT (decide ((↑a0.size : Int) ≤ Int.ofNat 64)) (brT (IntKind.i64.wrap (1 * 2 ^ (↑a0.size : Int).toNat) == 0) none (brT (IntKind.i64.wrap (1 * 2 ^ (↑a0.size : Int).toNat) == 0) none (brT (r_impl_TileKey M (↑a0.size : Int) ((IntKind.i64.wrap ((IntKind.i64.wrap ((c0_impl_KeyBeside M a0 a1 a2).fst + a1)).tmod (IntKind.i64.wrap (1 * 2 ^ (↑a0.size : Int).toNat)) + IntKind.i64.wrap (1 * 2 ^ (↑a0.size : Int).toNat))).tmod (IntKind.i64.wrap (1 * 2 ^ (↑a0.size : Int).toNat))) (IntKind.i64.wrap ((c0_impl_KeyBeside M a0 a1 a2).snd + a2))) (some (F_impl_KeyBeside (((c1_impl_KeyBeside M a0 a1 a2).fst, (c1_impl_KeyBeside M a0 a1 a2).snd)))) none))) none) none)))) none)) (by kernel_rfl)
    ((pushL (pushR (fun _ => rfl) (pushR (fun _ => rfl) (pushR (fun _ => rfl) (pushL (pushL (pushN (pushN (pushL (fun _ => rfl)))))))))) h)
theorem ok_impl_KeyBeside : OkFn Tryd.prog 21 (S_impl_KeyBeside R) :=
  okFn_of (good_cons ok_impl_TileKey (good_cons ok_impl_IsKey (good_cons ok_impl_keyTile (good_cons ok_impl_within good_nil)))) follows Tryd.func21 rfl (by decide) (by decide) lam_nil (m := 3) (fun _ => rfl) (by decide) (fun _ _ h => nomatch h) (fun _ _ h => nomatch h) (fun x hx => ⟨40, e_impl_KeyBeside R x.1 x.2.1 x.2.2.1 hx⟩)

set_option maxRecDepth 100000 in
theorem e_impl_KeyParent (M : FOps) (a0 : ByteArray) (h : r_impl_KeyParent M a0 = true) : cwp M Tryd.prog (envOf [(19, S_impl_IsKey M)]) (lamOf []) 40 (Tryd.f22.body.getD .skip) 0 (retK Tryd.prog Tryd.f22.results.toList (.cons (.one .str) (.cons (.one .bool) .nil)) 0) (initSt (.cons (.one .str) .nil) (a0, ())) = some (F_impl_KeyParent (p_impl_KeyParent M a0)) := 
  Eq.trans (b := (brT (r_impl_IsKey M a0) (brT (!p_impl_IsKey M a0) (some (F_impl_KeyParent (((ByteArray.mk #[]), false)))) (brT (a0.toList == (ByteArray.mk #[]).toList) (some (F_impl_KeyParent (((ByteArray.mk #[]), false)))) (brT (decide (Int.ofNat 0 ≤ (some (IntKind.i64.wrap ((↑a0.size : Int) - 1))).getD (↑a0.size : Int)) && decide ((some (IntKind.i64.wrap ((↑a0.size : Int) - 1))).getD (↑a0.size : Int) ≤ (↑a0.size : Int))) (some (F_impl_KeyParent ((p_sub a0 0 ((some (IntKind.i64.wrap ((↑a0.size : Int) - 1))).getD (↑a0.size : Int)).toNat, true)))) none))) none)) (by kernel_rfl)
    ((pushL (pushR (fun _ => rfl) (pushR (fun _ => rfl) (pushL (fun _ => rfl))))) h)
theorem ok_impl_KeyParent : OkFn Tryd.prog 22 (S_impl_KeyParent R) :=
  okFn_of (good_cons ok_impl_IsKey good_nil) follows Tryd.func22 rfl (by decide) (by decide) lam_nil (m := 1) (fun _ => rfl) (by decide) (fun _ _ h => nomatch h) (fun _ _ h => nomatch h) (fun x hx => ⟨40, e_impl_KeyParent R x.1 hx⟩)

set_option maxRecDepth 100000 in
theorem hs_spec_l07Is_0 (M : FOps) (v0 : ByteArray) (v1 : Int) (v2 : Bool) : cwp M Tryd.prog (envOf []) (lamOf []) 40 ((loopsOf (Tryd.f45.body.getD .skip)).getD 0 .skip) 1 (stepK (.cons (.tv 0 false .str) (.cons (.tv 3 false (.int .i64)) (.cons (.tv 2 false .bool) .nil))) [(.ret, (.cons (.tv 2 false .bool) .nil)), ((.exit 0), (.cons (.tv 0 false .str) (.cons (.tv 2 false .bool) .nil)))]) (canon (.cons (.tv 0 false .str) (.cons (.tv 3 false (.int .i64)) (.cons (.tv 2 false .bool) .nil))) 0 0 (v0, (v1, (v2, ())))) = st_spec_l07Is_0 M v0 v1 v2 := by
  unfold st_spec_l07Is_0
  kernel_rfl
set_option maxRecDepth 100000 in
theorem lk_spec_l07Is_0 : LOk Tryd.prog Tryd.f45.ntmps ((loopsOf (Tryd.f45.body.getD .skip)).getD 0 .skip) (L_spec_l07Is_0 R) :=
  lok (F := 40) (Λ := lamOf []) (b := 1) good_nil follows (by kernel_rfl) (fun _ _ _ _ h => nomatch h) (by decide) (by decide) (by decide) (fun x => hs_spec_l07Is_0 R x.1 x.2.1 x.2.2.1)
set_option maxRecDepth 100000 in
theorem e_spec_l07Is (M : FOps) (a0 : ByteArray) (h : r_spec_l07Is M a0 = true) : cwp M Tryd.prog (envOf []) (lamOf [(0, L_spec_l07Is_0 M)]) 40 (Tryd.f45.body.getD .skip) 0 (retK Tryd.prog Tryd.f45.results.toList (.cons (.one .bool) .nil) 0) (initSt (.cons (.one .str) .nil) (a0, ())) = some (F_spec_l07Is (p_spec_l07Is M a0)) := 
  Eq.trans (b := (brT ((c0_spec_l07Is M a0).isSome) (brT (isL ((c0_spec_l07Is M a0).getD (Sum.inl (false, ())))) (some (F_spec_l07Is ((getL (false, ()) ((c0_spec_l07Is M a0).getD (Sum.inl (false, ())))).fst))) (some (F_spec_l07Is (decide ((↑(ByteArray.size (getR ((ByteArray.mk #[]), false, ()) ((c0_spec_l07Is M a0).getD (Sum.inl (false, ())))).fst) : Int) ≤ 20))))) none)) (by kernel_rfl)
    ((pushL (fun _ => (push2 rfl rfl))) h)
theorem ok_spec_l07Is : OkFn Tryd.prog 45 (S_spec_l07Is R) :=
  okFn_of good_nil follows Tryd.func45 rfl (by decide) (by decide) (lam_cons (i := 0) (cc := (loopsOf (Tryd.f45.body.getD .skip)).getD 0 .skip) (by kernel_rfl) lk_spec_l07Is_0 lam_nil) (m := 1) (fun _ => rfl) (by decide) (fun _ _ h => nomatch h) (fun _ _ h => nomatch h) (fun x hx => ⟨40, e_spec_l07Is R x.1 hx⟩)

set_option maxRecDepth 100000 in
theorem hs_spec_l07Read_0 (M : FOps) (v0 : ByteArray) (v1 : Int) (v2 : Int) (v3 : Int) (v4 : Int) (v5 : Int) : cwp M Tryd.prog (envOf []) (lamOf []) 40 ((loopsOf (Tryd.f47.body.getD .skip)).getD 0 .skip) 1 (stepK (.cons (.tv 0 false .str) (.cons (.tv 4 false (.int .i64)) (.cons (.tv 5 false (.int .i64)) (.cons (.tv 6 false (.int .i64)) (.cons (.tv 2 false (.int .i64)) (.cons (.tv 3 false (.int .i64)) .nil)))))) [((.exit 0), (.cons (.tv 4 false (.int .i64)) (.cons (.tv 5 false (.int .i64)) (.cons (.tv 2 false (.int .i64)) (.cons (.tv 3 false (.int .i64)) .nil)))))]) (canon (.cons (.tv 0 false .str) (.cons (.tv 4 false (.int .i64)) (.cons (.tv 5 false (.int .i64)) (.cons (.tv 6 false (.int .i64)) (.cons (.tv 2 false (.int .i64)) (.cons (.tv 3 false (.int .i64)) .nil)))))) 0 0 (v0, (v1, (v2, (v3, (v4, (v5, ()))))))) = st_spec_l07Read_0 M v0 v1 v2 v3 v4 v5 := by
  unfold st_spec_l07Read_0
  kernel_rfl
set_option maxRecDepth 100000 in
theorem lk_spec_l07Read_0 : LOk Tryd.prog Tryd.f47.ntmps ((loopsOf (Tryd.f47.body.getD .skip)).getD 0 .skip) (L_spec_l07Read_0 R) :=
  lok (F := 40) (Λ := lamOf []) (b := 1) good_nil follows (by kernel_rfl) (fun _ _ _ _ h => nomatch h) (by decide) (by decide) (by decide) (fun x => hs_spec_l07Read_0 R x.1 x.2.1 x.2.2.1 x.2.2.2.1 x.2.2.2.2.1 x.2.2.2.2.2.1)
set_option maxRecDepth 100000 in
theorem e_spec_l07Read (M : FOps) (a0 : ByteArray) (h : r_spec_l07Read M a0 = true) : cwp M Tryd.prog (envOf []) (lamOf [(0, L_spec_l07Read_0 M)]) 40 (Tryd.f47.body.getD .skip) 0 (retK Tryd.prog Tryd.f47.results.toList (.cons (.one (.int .i64)) (.cons (.one (.int .i64)) .nil)) 0) (initSt (.cons (.one .str) .nil) (a0, ())) = some (F_spec_l07Read (p_spec_l07Read M a0)) := 
  Eq.trans (b := (brT ((c0_spec_l07Read M a0).isSome) (some (F_spec_l07Read ((((c0_spec_l07Read M a0).getD (0, 0, 0, 0, ())).fst, ((c0_spec_l07Read M a0).getD (0, 0, 0, 0, ())).snd.fst)))) none)) (by kernel_rfl)
    ((pushL (fun _ => rfl)) h)
theorem ok_spec_l07Read : OkFn Tryd.prog 47 (S_spec_l07Read R) :=
  okFn_of good_nil follows Tryd.func47 rfl (by decide) (by decide) (lam_cons (i := 0) (cc := (loopsOf (Tryd.f47.body.getD .skip)).getD 0 .skip) (by kernel_rfl) lk_spec_l07Read_0 lam_nil) (m := 1) (fun _ => rfl) (by decide) (fun _ _ h => nomatch h) (fun _ _ h => nomatch h) (fun x hx => ⟨40, e_spec_l07Read R x.1 hx⟩)

set_option maxRecDepth 100000 in
theorem hs_spec_l07Key_0 (M : FOps) (v0 : Int) (v1 : Int) (v2 : (List Int)) (v3 : Int) (v4 : ByteArray) : cwp M Tryd.prog (envOf []) (lamOf []) 40 ((loopsOf (Tryd.f48.body.getD .skip)).getD 0 .skip) 1 (stepK (.cons (.tv 1 false (.int .i64)) (.cons (.tv 2 false (.int .i64)) (.cons (.to 7 0 (.int .u8)) (.cons (.tv 8 false (.int .i64)) (.cons (.tv 6 false .str) .nil))))) [((.exit 0), (.cons (.to 7 0 (.int .u8)) (.cons (.tv 6 false .str) .nil)))]) (canon (.cons (.tv 1 false (.int .i64)) (.cons (.tv 2 false (.int .i64)) (.cons (.to 7 0 (.int .u8)) (.cons (.tv 8 false (.int .i64)) (.cons (.tv 6 false .str) .nil))))) 1 0 (v0, (v1, (v2, (v3, (v4, ())))))) = st_spec_l07Key_0 M v0 v1 v2 v3 v4 := by
  unfold st_spec_l07Key_0
  kernel_rfl
set_option maxRecDepth 100000 in
theorem lk_spec_l07Key_0 : LOk Tryd.prog Tryd.f48.ntmps ((loopsOf (Tryd.f48.body.getD .skip)).getD 0 .skip) (L_spec_l07Key_0 R) :=
  lok (F := 40) (Λ := lamOf []) (b := 1) good_nil follows (by kernel_rfl) (fun _ _ _ _ h => nomatch h) (by decide) (by decide) (by decide) (fun x => hs_spec_l07Key_0 R x.1 x.2.1 x.2.2.1 x.2.2.2.1 x.2.2.2.2.1)
set_option maxRecDepth 100000 in
theorem e_spec_l07Key (M : FOps) (a0 : Int) (a1 : Int) (a2 : Int) (h : r_spec_l07Key M a0 a1 a2 = true) : cwp M Tryd.prog (envOf []) (lamOf [(0, L_spec_l07Key_0 M)]) 40 (Tryd.f48.body.getD .skip) 0 (retK Tryd.prog Tryd.f48.results.toList (.cons (.one .str) .nil) 0) (initSt (.cons (.one (.int .i64)) (.cons (.one (.int .i64)) (.cons (.one (.int .i64)) .nil))) (a0, (a1, (a2, ())))) = some (F_spec_l07Key (p_spec_l07Key M a0 a1 a2)) := 
  Eq.trans (b := (brT (decide (0 ≤ a0) && decide (a0 ≤ a0) && decide (a0 ≤ Int.ofNat 1073741824)) (brT ((List.replicate a0.toNat (0 : Int)).length.beq (List.replicate a0.toNat (0 : Int)).length && true) (brT ((c0_spec_l07Key M a0 a1 a2).isSome) (brT ((List.length ((c0_spec_l07Key M a0 a1 a2).getD ([], (ByteArray.mk #[]), ())).fst).beq (List.length ((c0_spec_l07Key M a0 a1 a2).getD ([], (ByteArray.mk #[]), ())).fst)) (some (F_spec_l07Key (p_bytes ((c0_spec_l07Key M a0 a1 a2).getD ([], (ByteArray.mk #[]), ())).fst))) none) none) none) none)) (by kernel_rfl)
    ((pushL (pushL (pushL (fun _ => (pushT beq_self_eq rfl))))) h)
theorem ok_spec_l07Key : OkFn Tryd.prog 48 (S_spec_l07Key R) :=
  okFn_of good_nil follows Tryd.func48 rfl (by decide) (by decide) (lam_cons (i := 0) (cc := (loopsOf (Tryd.f48.body.getD .skip)).getD 0 .skip) (by kernel_rfl) lk_spec_l07Key_0 lam_nil) (m := 3) (fun _ => rfl) (by decide) (fun _ _ h => nomatch h) (fun _ _ h => nomatch h) (fun x hx => ⟨40, e_spec_l07Key R x.1 x.2.1 x.2.2.1 hx⟩)

set_option maxRecDepth 100000 in
theorem e_spec_KeyBeside (M : FOps) (a0 : ByteArray) (a1 : Int) (a2 : Int) (h : r_spec_KeyBeside M a0 a1 a2 = true) : cwp M Tryd.prog (envOf [(45, S_spec_l07Is M), (46, S_spec_l00In M), (47, S_spec_l07Read M), (48, S_spec_l07Key M)]) (lamOf []) 40 (Tryd.f20.body.getD .skip) 0 (retK Tryd.prog Tryd.f20.results.toList (.cons (.one .str) (.cons (.one .bool) .nil)) 0) (initSt (.cons (.one .str) (.cons (.one (.int .i64)) (.cons (.one (.int .i64)) .nil))) (a0, (a1, (a2, ())))) = some (F_spec_KeyBeside (p_spec_KeyBeside M a0 a1 a2)) := 
  Eq.trans (b := (brT (r_spec_l07Is M a0) (brT (!p_spec_l07Is M a0) (some (F_spec_KeyBeside (((ByteArray.mk #[]), false)))) (brT (!p_spec_l00In M a1 (Int.negSucc 999999) 1000000) (some (F_spec_KeyBeside (((ByteArray.mk #[]), false)))) (brT (!p_spec_l00In M a2 (Int.negSucc 999999) 1000000) (some (F_spec_KeyBeside (((ByteArray.mk #[]), false)))) (brT (decide ((↑a0.size : Int) ≤ Int.ofNat 64)) (brT (r_spec_l07Read M a0) (brT (IntKind.i64.wrap (1 * 2 ^ (↑a0.size : Int).toNat) == 0) none (brT (IntKind.i64.wrap (1 * 2 ^ (↑a0.size : Int).toNat) == 0) none (brT (!p_spec_l00In M (IntKind.i64.wrap ((c0_spec_KeyBeside M a0 a1 a2).snd + a2)) 0 (IntKind.i64.wrap (IntKind.i64.wrap (1 * 2 ^ (↑a0.size : Int).toNat) - 1))) (some (F_spec_KeyBeside (((ByteArray.mk #[]), false)))) (brT (r_spec_l07Key M (↑a0.size : Int) ((IntKind.i64.wrap ((IntKind.i64.wrap ((c0_spec_KeyBeside M a0 a1 a2).fst + a1)).tmod (IntKind.i64.wrap (1 * 2 ^ (↑a0.size : Int).toNat)) + IntKind.i64.wrap (1 * 2 ^ (↑a0.size : Int).toNat))).tmod (IntKind.i64.wrap (1 * 2 ^ (↑a0.size : Int).toNat))) (IntKind.i64.wrap ((c0_spec_KeyBeside M a0 a1 a2).snd + a2))) (some (F_spec_KeyBeside ((p_spec_l07Key M (↑a0.size : Int) ((IntKind.i64.wrap ((IntKind.i64.wrap ((c0_spec_KeyBeside M a0 a1 a2).fst + a1)).tmod (IntKind.i64.wrap (1 * 2 ^ (↑a0.size : Int).toNat)) + IntKind.i64.wrap (1 * 2 ^ (↑a0.size : Int).toNat))).tmod (IntKind.i64.wrap (1 * 2 ^ (↑a0.size : Int).toNat))) (IntKind.i64.wrap ((c0_spec_KeyBeside M a0 a1 a2).snd + a2)), true)))) none)))) none) none)))) none)) (by kernel_rfl)
    ((pushL (pushR (fun _ => rfl) (pushR (fun _ => rfl) (pushR (fun _ => rfl) (pushL (pushL (pushN (pushN (pushR (fun _ => rfl) (pushL (fun _ => rfl))))))))))) h)
theorem ok_spec_KeyBeside : OkFn Tryd.prog 20 (S_spec_KeyBeside R) :=
  okFn_of (good_cons ok_spec_l07Is (good_cons ok_spec_l00In (good_cons ok_spec_l07Read (good_cons ok_spec_l07Key good_nil)))) follows Tryd.func20 rfl (by decide) (by decide) lam_nil (m := 3) (fun _ => rfl) (by decide) (fun _ _ h => nomatch h) (fun _ _ h => nomatch h) (fun x hx => ⟨40, e_spec_KeyBeside R x.1 x.2.1 x.2.2.1 hx⟩)

end Go.Proofs.YtgfplcpjnlignaaDoor
