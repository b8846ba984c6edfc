/- Printed by gen2.py. -/
import Derived.Test.YtgfplcpjnlignaaDoorWkj
import Derived.Test.YtgfplcpjnlignaaDoorZkh

set_option linter.unusedVariables false
set_option linter.unusedSimpArgs false

-- GENERATED BELOW (gen.py)
namespace Go.Proofs.YtgfplcpjnlignaaDoor
open Go Go.Cv Go.Dv
set_option maxRecDepth 100000 in
theorem hs_impl_packNumber_0 (M : FOps) (v0 : Int) (v1 : (List Int)) (v2 : (List Int)) : cwp M Tryd.prog (envOf []) (lamOf []) 40 ((loopsOf (Tryd.f71.body.getD .skip)).getD 0 .skip) 1 (stepK (.cons (.tv 3 false (.int .u64)) (.cons (.to 4 0 (.int .u8)) (.cons (.to 2 1 (.int .u8)) .nil))) [((.exit 0), (.cons (.tv 3 false (.int .u64)) (.cons (.to 4 0 (.int .u8)) (.cons (.to 2 1 (.int .u8)) .nil))))]) (canon (.cons (.tv 3 false (.int .u64)) (.cons (.to 4 0 (.int .u8)) (.cons (.to 2 1 (.int .u8)) .nil))) 2 0 (v0, (v1, (v2, ())))) = st_impl_packNumber_0 M v0 v1 v2 := by
  unfold st_impl_packNumber_0
  kernel_rfl
set_option maxRecDepth 100000 in
theorem lk_impl_packNumber_0 : LOk Tryd.prog Tryd.f71.ntmps ((loopsOf (Tryd.f71.body.getD .skip)).getD 0 .skip) (L_impl_packNumber_0 R) :=
  lok (F := 40) (Λ := lamOf []) (b := 1) good_nil follows (by kernel_rfl) (fun _ _ _ _ h => nomatch h) (by decide) (by decide) (by decide) (fun x => hs_impl_packNumber_0 R x.1 x.2.1 x.2.2.1)
set_option maxRecDepth 100000 in
theorem e_impl_packNumber (M : FOps) (a0 : Int) (h : r_impl_packNumber M a0 = true) : cwp M Tryd.prog (envOf []) (lamOf [(0, L_impl_packNumber_0 M)]) 40 (Tryd.f71.body.getD .skip) 0 (retK Tryd.prog Tryd.f71.results.toList (.cons (.one (.ls (.int .u8))) .nil) 0) (initSt (.cons (.one (.int .i64)) .nil) (a0, ())) = some (F_impl_packNumber (p_impl_packNumber M a0)) := 
  Eq.trans (b := (brT (decide (a0 < 0)) (brT ((c0_impl_packNumber M a0).isSome) (brT ((List.length ((c0_impl_packNumber M a0).getD (0, [], [], ())).snd.fst).beq (List.length ((c0_impl_packNumber M a0).getD (0, [], [], ())).snd.fst) && (List.length ((c0_impl_packNumber M a0).getD (0, [], [], ())).snd.fst + [IntKind.u8.wrap ((c0_impl_packNumber M a0).getD (0, [], [], ())).fst].length).ble 1073741824) (brT ((((c0_impl_packNumber M a0).getD (0, [], [], ())).snd.fst ++ [IntKind.u8.wrap ((c0_impl_packNumber M a0).getD (0, [], [], ())).fst]).length.beq (((c0_impl_packNumber M a0).getD (0, [], [], ())).snd.fst ++ [IntKind.u8.wrap ((c0_impl_packNumber M a0).getD (0, [], [], ())).fst]).length && true) (some (F_impl_packNumber (((c0_impl_packNumber M a0).getD (0, [], [], ())).snd.fst ++ [IntKind.u8.wrap ((c0_impl_packNumber M a0).getD (0, [], [], ())).fst]))) none) none) none) (brT ((c1_impl_packNumber M a0).isSome) (brT ((List.length ((c1_impl_packNumber M a0).getD (0, [], [], ())).snd.fst).beq (List.length ((c1_impl_packNumber M a0).getD (0, [], [], ())).snd.fst) && (List.length ((c1_impl_packNumber M a0).getD (0, [], [], ())).snd.fst + [IntKind.u8.wrap ((c1_impl_packNumber M a0).getD (0, [], [], ())).fst].length).ble 1073741824) (brT ((((c1_impl_packNumber M a0).getD (0, [], [], ())).snd.fst ++ [IntKind.u8.wrap ((c1_impl_packNumber M a0).getD (0, [], [], ())).fst]).length.beq (((c1_impl_packNumber M a0).getD (0, [], [], ())).snd.fst ++ [IntKind.u8.wrap ((c1_impl_packNumber M a0).getD (0, [], [], ())).fst]).length && true) (some (F_impl_packNumber (((c1_impl_packNumber M a0).getD (0, [], [], ())).snd.fst ++ [IntKind.u8.wrap ((c1_impl_packNumber M a0).getD (0, [], [], ())).fst]))) none) none) none))) (by kernel_rfl)
    ((pushR (pushL (pushL (pushL (fun _ => rfl)))) (pushL (pushL (pushL (fun _ => rfl))))) h)
theorem ok_impl_packNumber : OkFn Tryd.prog 71 (S_impl_packNumber R) :=
  okFn_of good_nil follows Tryd.func71 rfl (by decide) (by decide) (lam_cons (i := 0) (cc := (loopsOf (Tryd.f71.body.getD .skip)).getD 0 .skip) (by kernel_rfl) lk_impl_packNumber_0 lam_nil) (m := 1) (fun _ => rfl) (by decide) (fun _ _ h => nomatch h) (fun y c h => by simp [encR, encC] at h; first | (subst h; exact ⟨_, _, rfl⟩) | (rcases h with rfl | rfl <;> exact ⟨_, _, rfl⟩) | (rcases h with rfl | rfl | rfl <;> exact ⟨_, _, rfl⟩)) (fun x hx => ⟨40, e_impl_packNumber R x.1 hx⟩)

set_option maxRecDepth 100000 in
theorem hs_impl_packPlaces_0 (M : FOps) (v0 : (List Int)) (v1 : Int) (v2 : Int) (v3 : (List (Nat × Nat))) (v4 : Int) (v5 : Int) (v6 : ByteArray) : cwp M Tryd.prog (envOf [(63, S_impl_StepsOf M), (71, S_impl_packNumber M)]) (lamOf []) 40 ((loopsOf (Tryd.f50.body.getD .skip)).getD 0 .skip) 1 (stepK (.cons (.to 3 0 (.int .u8)) (.cons (.tv 4 false (.int .i64)) (.cons (.tv 5 false (.int .i64)) (.cons (.tv 11 true (.ls (.pair (.fl .f32) (.fl .f32)))) (.cons (.tv 12 false (.int .i64)) (.cons (.tv 13 false (.int .i64)) (.cons (.tv 2 false .str) .nil))))))) [((.exit 0), (.cons (.to 3 0 (.int .u8)) (.cons (.tv 2 false .str) .nil)))]) (canon (.cons (.to 3 0 (.int .u8)) (.cons (.tv 4 false (.int .i64)) (.cons (.tv 5 false (.int .i64)) (.cons (.tv 11 true (.ls (.pair (.fl .f32) (.fl .f32)))) (.cons (.tv 12 false (.int .i64)) (.cons (.tv 13 false (.int .i64)) (.cons (.tv 2 false .str) .nil))))))) 1 0 (v0, (v1, (v2, (v3, (v4, (v5, (v6, ())))))))) = st_impl_packPlaces_0 M v0 v1 v2 v3 v4 v5 v6 := by
  unfold st_impl_packPlaces_0
  kernel_rfl
set_option maxRecDepth 100000 in
theorem lk_impl_packPlaces_0 : LOk Tryd.prog Tryd.f50.ntmps ((loopsOf (Tryd.f50.body.getD .skip)).getD 0 .skip) (L_impl_packPlaces_0 R) :=
  lok (F := 40) (Λ := lamOf []) (b := 1) (good_cons ok_impl_StepsOf (good_cons ok_impl_packNumber good_nil)) follows (by kernel_rfl) (fun _ _ _ _ h => nomatch h) (by decide) (by decide) (by decide) (fun x => hs_impl_packPlaces_0 R x.1 x.2.1 x.2.2.1 x.2.2.2.1 x.2.2.2.2.1 x.2.2.2.2.2.1 x.2.2.2.2.2.2.1)
set_option maxRecDepth 100000 in
theorem e_impl_packPlaces (M : FOps) (a0 : (List (Nat × Nat))) (h : r_impl_packPlaces M a0 = true) : cwp M Tryd.prog (envOf [(63, S_impl_StepsOf M), (71, S_impl_packNumber M)]) (lamOf [(0, L_impl_packPlaces_0 M)]) 40 (Tryd.f50.body.getD .skip) 0 (retK Tryd.prog Tryd.f50.results.toList (.cons (.one .str) .nil) 0) (initSt (.cons (.one (.ls (.pair (.fl .f32) (.fl .f32)))) .nil) (a0, ())) = some (F_impl_packPlaces (p_impl_packPlaces M a0)) := 
  Eq.trans (b := (brT ((c0_impl_packPlaces M a0).isSome) (brT ((List.length ((c0_impl_packPlaces M a0).getD ([], { data := #[] }, ())).fst).beq (List.length ((c0_impl_packPlaces M a0).getD ([], { data := #[] }, ())).fst)) (some (F_impl_packPlaces (p_bytes ((c0_impl_packPlaces M a0).getD ([], { data := #[] }, ())).fst))) none) none)) (by kernel_rfl)
    ((pushL (fun _ => (pushT beq_self_eq rfl))) h)
theorem ok_impl_packPlaces : OkFn Tryd.prog 50 (S_impl_packPlaces R) :=
  okFn_of (good_cons ok_impl_StepsOf (good_cons ok_impl_packNumber good_nil)) follows Tryd.func50 rfl (by decide) (by decide) (lam_cons (i := 0) (cc := (loopsOf (Tryd.f50.body.getD .skip)).getD 0 .skip) (by kernel_rfl) lk_impl_packPlaces_0 lam_nil) (m := 1) (fun _ => rfl) (by decide) (fun _ _ h => nomatch h) (fun _ _ h => nomatch h) (fun x hx => ⟨40, e_impl_packPlaces R x.1 hx⟩)

set_option maxRecDepth 100000 in
theorem hs_impl_CheckOf_0 (M : FOps) (v0 : Int) (v1 : ByteArray) (v2 : Int) (v3 : Int) (v4 : Int) (v5 : Bool) : cwp M Tryd.prog (envOf [(41, S_impl_within M)]) (lamOf []) 40 ((loopsOf (Tryd.f72.body.getD .skip)).getD 0 .skip) 1 (stepK (.cons (.tv 0 false (.int .i64)) (.cons (.tv 1 false .str) (.cons (.tv 11 false (.int .i64)) (.cons (.tv 12 false (.int .i64)) (.cons (.tv 4 false (.int .i64)) (.cons (.tv 5 false .bool) .nil)))))) [((.exit 0), (.cons (.tv 0 false (.int .i64)) (.cons (.tv 4 false (.int .i64)) (.cons (.tv 5 false .bool) .nil))))]) (canon (.cons (.tv 0 false (.int .i64)) (.cons (.tv 1 false .str) (.cons (.tv 11 false (.int .i64)) (.cons (.tv 12 false (.int .i64)) (.cons (.tv 4 false (.int .i64)) (.cons (.tv 5 false .bool) .nil)))))) 0 0 (v0, (v1, (v2, (v3, (v4, (v5, ()))))))) = st_impl_CheckOf_0 M v0 v1 v2 v3 v4 v5 := by
  unfold st_impl_CheckOf_0
  kernel_rfl
set_option maxRecDepth 100000 in
theorem lk_impl_CheckOf_0 : LOk Tryd.prog Tryd.f72.ntmps ((loopsOf (Tryd.f72.body.getD .skip)).getD 0 .skip) (L_impl_CheckOf_0 R) :=
  lok (F := 40) (Λ := lamOf []) (b := 1) (good_cons ok_impl_within good_nil) follows (by kernel_rfl) (fun _ _ _ _ h => nomatch h) (by decide) (by decide) (by decide) (fun x => hs_impl_CheckOf_0 R x.1 x.2.1 x.2.2.1 x.2.2.2.1 x.2.2.2.2.1 x.2.2.2.2.2.1)
set_option maxRecDepth 100000 in
theorem e_impl_CheckOf (M : FOps) (a0 : Int) (a1 : ByteArray) (h : r_impl_CheckOf M a0 a1 = true) : cwp M Tryd.prog (envOf [(41, S_impl_within M)]) (lamOf [(0, L_impl_CheckOf_0 M)]) 40 (Tryd.f72.body.getD .skip) 0 (retK Tryd.prog Tryd.f72.results.toList (.cons (.one (.int .i64)) (.cons (.one .bool) .nil)) 0) (initSt (.cons (.one (.int .i64)) (.cons (.one .str) .nil)) (a0, (a1, ()))) = some (F_impl_CheckOf (p_impl_CheckOf M a0 a1)) := 
  Eq.trans (b := (brT (!p_impl_within M a0 0 65002) (some (F_impl_CheckOf ((0, false)))) (brT ((c0_impl_CheckOf M a0 a1).isSome) (some (F_impl_CheckOf ((((c0_impl_CheckOf M a0 a1).getD (0, 0, false, ())).fst, true)))) none))) (by kernel_rfl)
    ((pushR (fun _ => rfl) (pushL (fun _ => rfl))) h)
theorem ok_impl_CheckOf : OkFn Tryd.prog 72 (S_impl_CheckOf R) :=
  okFn_of (good_cons ok_impl_within good_nil) follows Tryd.func72 rfl (by decide) (by decide) (lam_cons (i := 0) (cc := (loopsOf (Tryd.f72.body.getD .skip)).getD 0 .skip) (by kernel_rfl) lk_impl_CheckOf_0 lam_nil) (m := 2) (fun _ => rfl) (by decide) (fun _ _ h => nomatch h) (fun _ _ h => nomatch h) (fun x hx => ⟨40, e_impl_CheckOf R x.1 x.2.1 hx⟩)

set_option maxRecDepth 100000 in
theorem e_impl_shortBytes (M : FOps) (a0 : Int) : cwp M Tryd.prog (envOf []) (lamOf []) 40 (Tryd.f51.body.getD .skip) 0 (retK Tryd.prog Tryd.f51.results.toList (.cons (.one .str) .nil) 0) (initSt (.cons (.one (.int .i64)) .nil) (a0, ())) = some (F_impl_shortBytes (p_impl_shortBytes M a0)) := by kernel_rfl
theorem ok_impl_shortBytes : OkFn Tryd.prog 51 (S_impl_shortBytes R) :=
  okFn_of good_nil follows Tryd.func51 rfl (by decide) (by decide) lam_nil (m := 1) (fun _ => rfl) (by decide) (fun _ _ h => nomatch h) (fun _ _ h => nomatch h) (fun x _ => ⟨40, e_impl_shortBytes R x.1⟩)

set_option maxRecDepth 100000 in
theorem e_impl_checkBytes (M : FOps) (a0 : ByteArray) (h : r_impl_checkBytes M a0 = true) : cwp M Tryd.prog (envOf [(51, S_impl_shortBytes M), (72, S_impl_CheckOf M)]) (lamOf []) 40 (Tryd.f52.body.getD .skip) 0 (retK Tryd.prog Tryd.f52.results.toList (.cons (.one .str) .nil) 0) (initSt (.cons (.one .str) .nil) (a0, ())) = some (F_impl_checkBytes (p_impl_checkBytes M a0)) := 
  Eq.trans (b := (brT (r_impl_CheckOf M 0 a0) (some (F_impl_checkBytes (p_impl_shortBytes M (p_impl_CheckOf M 0 a0).fst))) none)) (by kernel_rfl)
    ((pushL (fun _ => rfl)) h)
theorem ok_impl_checkBytes : OkFn Tryd.prog 52 (S_impl_checkBytes R) :=
  okFn_of (good_cons ok_impl_shortBytes (good_cons ok_impl_CheckOf good_nil)) follows Tryd.func52 rfl (by decide) (by decide) lam_nil (m := 1) (fun _ => rfl) (by decide) (fun _ _ h => nomatch h) (fun _ _ h => nomatch h) (fun x hx => ⟨40, e_impl_checkBytes R x.1 hx⟩)

set_option maxHeartbeats 4000000 in
set_option maxRecDepth 100000 in
theorem e_impl_trackBytes (M : FOps) (a0_0 : ByteArray) (a0_1 : (List (Nat × Nat))) (h : r_impl_trackBytes M a0_0 a0_1 = true) : cwp M Tryd.prog (envOf [(50, S_impl_packPlaces M), (51, S_impl_shortBytes M), (52, S_impl_checkBytes M)]) (lamOf []) 40 (Tryd.f27.body.getD .skip) 0 (retK Tryd.prog Tryd.f27.results.toList (.cons (.one .str) .nil) 0) (initSt (.cons (.agg (.pair .str (.ls (.pair (.fl .f32) (.fl .f32))))) .nil) ((a0_0, a0_1), ())) = some (F_impl_trackBytes (p_impl_trackBytes M a0_0 a0_1)) := 
  Eq.trans (b := (brT (r_impl_packPlaces M a0_1) (brT ((({ data := #[84, 82, 75, 50] } ++ p_bytes [IntKind.u8.wrap (↑a0_0.size : Int)]).size + a0_0.size).ble 4611686018427387904) (brT ((({ data := #[84, 82, 75, 50] } ++ p_bytes [IntKind.u8.wrap (↑a0_0.size : Int)] ++ a0_0).size + (c1_impl_trackBytes M a0_0 a0_1).size).ble 4611686018427387904) (brT ((({ data := #[84, 82, 75, 50] } ++ p_bytes [IntKind.u8.wrap (↑a0_0.size : Int)] ++ a0_0 ++ (c1_impl_trackBytes M a0_0 a0_1)).size + (c0_impl_trackBytes M a0_0 a0_1).size).ble 4611686018427387904) (brT (r_impl_checkBytes M ({ data := #[84, 82, 75, 50] } ++ p_bytes [IntKind.u8.wrap (↑a0_0.size : Int)] ++ a0_0 ++ (c1_impl_trackBytes M a0_0 a0_1) ++ (c0_impl_trackBytes M a0_0 a0_1))) (brT ((({ data := #[84, 82, 75, 50] } ++ p_bytes [IntKind.u8.wrap (↑a0_0.size : Int)] ++ a0_0 ++ (c1_impl_trackBytes M a0_0 a0_1) ++ (c0_impl_trackBytes M a0_0 a0_1)).size + (c2_impl_trackBytes M a0_0 a0_1).size).ble 4611686018427387904) (some (F_impl_trackBytes ({ data := #[84, 82, 75, 50] } ++ p_bytes [IntKind.u8.wrap (↑a0_0.size : Int)] ++ a0_0 ++ (c1_impl_trackBytes M a0_0 a0_1) ++ (c0_impl_trackBytes M a0_0 a0_1) ++ (c2_impl_trackBytes M a0_0 a0_1)))) none) none) none) none) none) none)) (by kernel_rfl)
    ((pushL (pushL (pushL (pushL (pushL (pushL (fun _ => rfl))))))) h)
theorem ok_impl_trackBytes : OkFn Tryd.prog 27 (S_impl_trackBytes R) :=
  okFn_of (good_cons ok_impl_packPlaces (good_cons ok_impl_shortBytes (good_cons ok_impl_checkBytes good_nil))) follows Tryd.func27 rfl (by decide) (by decide) lam_nil (m := 1) (fun _ => rfl) (by decide) (fun _ _ h => nomatch h) (fun _ _ h => nomatch h) (fun x hx => ⟨40, e_impl_trackBytes R x.1.1 x.1.2 hx⟩)

set_option maxRecDepth 100000 in
theorem e_impl_StoreTrack (M : FOps) (a0_0 : ByteArray) (a0_1 : (List (Nat × Nat))) (h : r_impl_StoreTrack M a0_0 a0_1 = true) : cwp M Tryd.prog (envOf [(9, S_impl_ValidTrack M), (27, S_impl_trackBytes M)]) (lamOf []) 40 (Tryd.f7.body.getD .skip) 0 (retK Tryd.prog Tryd.f7.results.toList (.cons (.one .str) (.cons (.one .bool) .nil)) 0) (initSt (.cons (.agg (.pair .str (.ls (.pair (.fl .f32) (.fl .f32))))) .nil) ((a0_0, a0_1), ())) = some (F_impl_StoreTrack (p_impl_StoreTrack M a0_0 a0_1)) := 
  Eq.trans (b := (brT (r_impl_ValidTrack M a0_0 a0_1) (brT (!p_impl_ValidTrack M a0_0 a0_1) (some (F_impl_StoreTrack (({ data := #[] }, false)))) (brT (r_impl_trackBytes M a0_0 a0_1) (some (F_impl_StoreTrack ((p_impl_trackBytes M a0_0 a0_1, true)))) none)) none)) (by kernel_rfl)
    ((pushL (pushR (fun _ => rfl) (pushL (fun _ => rfl)))) h)
theorem ok_impl_StoreTrack : OkFn Tryd.prog 7 (S_impl_StoreTrack R) :=
  okFn_of (good_cons ok_impl_ValidTrack (good_cons ok_impl_trackBytes good_nil)) follows Tryd.func7 rfl (by decide) (by decide) lam_nil (m := 1) (fun _ => rfl) (by decide) (fun _ _ h => nomatch h) (fun _ _ h => nomatch h) (fun x hx => ⟨40, e_impl_StoreTrack R x.1.1 x.1.2 hx⟩)

end Go.Proofs.YtgfplcpjnlignaaDoor
