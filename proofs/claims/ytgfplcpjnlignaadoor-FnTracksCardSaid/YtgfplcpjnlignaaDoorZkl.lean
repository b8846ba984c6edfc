/- Printed by gen2.py. -/
import Derived.Test.YtgfplcpjnlignaaDoorWkl
import Derived.Test.YtgfplcpjnlignaaDoorLhe
import Derived.Test.YtgfplcpjnlignaaDoorZkj

set_option linter.unusedVariables false
set_option linter.unusedSimpArgs false

-- GENERATED BELOW (gen.py)
namespace Go.Proofs.YtgfplcpjnlignaaDoor
open Go Go.Cv Go.Dv
set_option maxRecDepth 100000 in
theorem e_impl_areAll_impl_Track_1 (M : FOps) (a0_0 : ByteArray) (a0_1 : (List (Nat × Nat))) (h : r_impl_areAll_impl_Track_1 M a0_0 a0_1 = true) : cwp M Tryd.prog (envOf [(9, S_impl_ValidTrack M)]) (lamOf []) 40 (Tryd.f61.body.getD .skip) 0 (retK Tryd.prog Tryd.f61.results.toList (.cons (.one .bool) .nil) 0) (initSt (.cons (.agg (.pair .str (.ls (.pair (.fl .f32) (.fl .f32))))) (.cons (.pf 9) .nil)) ((a0_0, a0_1), ((), ()))) = some (F_impl_areAll_impl_Track_1 (p_impl_areAll_impl_Track_1 M a0_0 a0_1)) := 
  Eq.trans (b := (brT (r_impl_ValidTrack M a0_0 a0_1) (some (F_impl_areAll_impl_Track_1 (!p_impl_ValidTrack M a0_0 a0_1))) none)) (by kernel_rfl)
    ((pushL (fun _ => rfl)) h)
theorem ok_impl_areAll_impl_Track_1 : OkFn Tryd.prog 61 (S_impl_areAll_impl_Track_1 R) :=
  okFn_of (good_cons ok_impl_ValidTrack good_nil) follows Tryd.func61 rfl (by decide) (by decide) lam_nil (m := 2) (fun _ => rfl) (by decide) (fun _ _ h => nomatch h) (fun _ _ h => nomatch h) (fun x hx => ⟨40, e_impl_areAll_impl_Track_1 R x.1.1 x.1.2 hx⟩)

set_option maxRecDepth 100000 in
theorem hs_slices_IndexFunc_impl_Track_impl_Track_k_0 (M : FOps) (v0 : (List (ByteArray × (List (Nat × Nat))))) (v1 : Int) (v2 : Int) (v3 : Int) : cwp M Tryd.prog (envOf [(9, S_impl_ValidTrack M), (61, S_impl_areAll_impl_Track_1 M)]) (lamOf []) 40 ((loopsOf (Tryd.f81.body.getD .skip)).getD 0 .skip) 1 (stepK (.cons (.tv 0 true (.ls (.pair .str (.ls (.pair (.fl .f32) (.fl .f32)))))) (.cons (.tg 1 61 [(.f 9)]) (.cons (.tv 7 false (.int .i64)) (.cons (.tv 8 false (.int .i64)) (.cons (.tv 4 false (.int .i64)) .nil))))) [(.ret, (.cons (.tv 4 false (.int .i64)) .nil)), ((.exit 0), (.cons (.tv 4 false (.int .i64)) .nil))]) (canon (.cons (.tv 0 true (.ls (.pair .str (.ls (.pair (.fl .f32) (.fl .f32)))))) (.cons (.tg 1 61 [(.f 9)]) (.cons (.tv 7 false (.int .i64)) (.cons (.tv 8 false (.int .i64)) (.cons (.tv 4 false (.int .i64)) .nil))))) 0 0 (v0, (((), ()), (v1, (v2, (v3, ())))))) = st_slices_IndexFunc_impl_Track_impl_Track_k_0 M v0 v1 v2 v3 := by
  unfold st_slices_IndexFunc_impl_Track_impl_Track_k_0
  kernel_rfl
set_option maxRecDepth 100000 in
theorem lk_slices_IndexFunc_impl_Track_impl_Track_k_0 : LOk Tryd.prog Tryd.f81.ntmps ((loopsOf (Tryd.f81.body.getD .skip)).getD 0 .skip) (L_slices_IndexFunc_impl_Track_impl_Track_k_0 R) :=
  lok (F := 40) (Λ := lamOf []) (b := 1) (good_cons ok_impl_ValidTrack (good_cons ok_impl_areAll_impl_Track_1 good_nil)) follows (by kernel_rfl) (fun _ _ _ _ h => nomatch h) (by decide) (by decide) (by decide) (fun x => hs_slices_IndexFunc_impl_Track_impl_Track_k_0 R x.1 x.2.2.1 x.2.2.2.1 x.2.2.2.2.1)
set_option maxRecDepth 100000 in
theorem e_slices_IndexFunc_impl_Track_impl_Track_k (M : FOps) (a0 : (List (ByteArray × (List (Nat × Nat))))) (h : r_slices_IndexFunc_impl_Track_impl_Track_k M a0 = true) : cwp M Tryd.prog (envOf [(9, S_impl_ValidTrack M), (61, S_impl_areAll_impl_Track_1 M)]) (lamOf [(0, L_slices_IndexFunc_impl_Track_impl_Track_k_0 M)]) 40 (Tryd.f81.body.getD .skip) 0 (retK Tryd.prog Tryd.f81.results.toList (.cons (.one (.int .i64)) .nil) 0) (initSt (.cons (.one (.ls (.pair .str (.ls (.pair (.fl .f32) (.fl .f32)))))) (.cons (.fn 61 (.cons (.pf 9) .nil)) .nil)) (a0, (((), ()), ()))) = some (F_slices_IndexFunc_impl_Track_impl_Track_k (p_slices_IndexFunc_impl_Track_impl_Track_k M a0)) := 
  Eq.trans (b := (brT ((c0_slices_IndexFunc_impl_Track_impl_Track_k M a0).isSome) (brT (isL ((c0_slices_IndexFunc_impl_Track_impl_Track_k M a0).getD (Sum.inl (0, ())))) (some (F_slices_IndexFunc_impl_Track_impl_Track_k ((getL (0, ()) ((c0_slices_IndexFunc_impl_Track_impl_Track_k M a0).getD (Sum.inl (0, ())))).fst))) (some (F_slices_IndexFunc_impl_Track_impl_Track_k (Int.negSucc 0)))) none)) (by kernel_rfl)
    ((pushL (fun _ => (push2 rfl rfl))) h)
theorem ok_slices_IndexFunc_impl_Track_impl_Track_k : OkFn Tryd.prog 81 (S_slices_IndexFunc_impl_Track_impl_Track_k R) :=
  okFn_of (good_cons ok_impl_ValidTrack (good_cons ok_impl_areAll_impl_Track_1 good_nil)) follows Tryd.func81 rfl (by decide) (by decide) (lam_cons (i := 0) (cc := (loopsOf (Tryd.f81.body.getD .skip)).getD 0 .skip) (by kernel_rfl) lk_slices_IndexFunc_impl_Track_impl_Track_k_0 lam_nil) (m := 2) (fun _ => rfl) (by decide) (fun _ _ h => nomatch h) (fun _ _ h => nomatch h) (fun x hx => ⟨40, e_slices_IndexFunc_impl_Track_impl_Track_k R x.1 hx⟩)

set_option maxRecDepth 100000 in
theorem e_slices_ContainsFunc_impl_Track_impl_Track_k (M : FOps) (a0 : (List (ByteArray × (List (Nat × Nat))))) (h : r_slices_ContainsFunc_impl_Track_impl_Track_k M a0 = true) : cwp M Tryd.prog (envOf [(9, S_impl_ValidTrack M), (61, S_impl_areAll_impl_Track_1 M), (81, S_slices_IndexFunc_impl_Track_impl_Track_k M)]) (lamOf []) 40 (Tryd.f60.body.getD .skip) 0 (retK Tryd.prog Tryd.f60.results.toList (.cons (.one .bool) .nil) 0) (initSt (.cons (.one (.ls (.pair .str (.ls (.pair (.fl .f32) (.fl .f32)))))) (.cons (.fn 61 (.cons (.pf 9) .nil)) .nil)) (a0, (((), ()), ()))) = some (F_slices_ContainsFunc_impl_Track_impl_Track_k (p_slices_ContainsFunc_impl_Track_impl_Track_k M a0)) := 
  Eq.trans (b := (brT (r_slices_IndexFunc_impl_Track_impl_Track_k M a0) (some (F_slices_ContainsFunc_impl_Track_impl_Track_k (decide ((c0_slices_ContainsFunc_impl_Track_impl_Track_k M a0) ≥ 0)))) none)) (by kernel_rfl)
    ((pushL (fun _ => rfl)) h)
theorem ok_slices_ContainsFunc_impl_Track_impl_Track_k : OkFn Tryd.prog 60 (S_slices_ContainsFunc_impl_Track_impl_Track_k R) :=
  okFn_of (good_cons ok_impl_ValidTrack (good_cons ok_impl_areAll_impl_Track_1 (good_cons ok_slices_IndexFunc_impl_Track_impl_Track_k good_nil))) follows Tryd.func60 rfl (by decide) (by decide) lam_nil (m := 2) (fun _ => rfl) (by decide) (fun _ _ h => nomatch h) (fun _ _ h => nomatch h) (fun x hx => ⟨40, e_slices_ContainsFunc_impl_Track_impl_Track_k R x.1 hx⟩)

set_option maxRecDepth 100000 in
theorem e_impl_areAll_impl_Track (M : FOps) (a0 : (List (ByteArray × (List (Nat × Nat))))) (h : r_impl_areAll_impl_Track M a0 = true) : cwp M Tryd.prog (envOf [(9, S_impl_ValidTrack M), (60, S_slices_ContainsFunc_impl_Track_impl_Track_k M), (61, S_impl_areAll_impl_Track_1 M)]) (lamOf []) 40 (Tryd.f35.body.getD .skip) 0 (retK Tryd.prog Tryd.f35.results.toList (.cons (.one .bool) .nil) 0) (initSt (.cons (.one (.ls (.pair .str (.ls (.pair (.fl .f32) (.fl .f32)))))) (.cons (.fn 9 .nil) .nil)) (a0, ((), ()))) = some (F_impl_areAll_impl_Track (p_impl_areAll_impl_Track M a0)) := 
  Eq.trans (b := (brT (r_slices_ContainsFunc_impl_Track_impl_Track_k M a0) (some (F_impl_areAll_impl_Track (!p_slices_ContainsFunc_impl_Track_impl_Track_k M a0))) none)) (by kernel_rfl)
    ((pushL (fun _ => rfl)) h)
theorem ok_impl_areAll_impl_Track : OkFn Tryd.prog 35 (S_impl_areAll_impl_Track R) :=
  okFn_of (good_cons ok_impl_ValidTrack (good_cons ok_slices_ContainsFunc_impl_Track_impl_Track_k (good_cons ok_impl_areAll_impl_Track_1 good_nil))) follows Tryd.func35 rfl (by decide) (by decide) lam_nil (m := 2) (fun _ => rfl) (by decide) (fun _ _ h => nomatch h) (fun _ _ h => nomatch h) (fun x hx => ⟨40, e_impl_areAll_impl_Track R x.1 hx⟩)

set_option maxRecDepth 100000 in
theorem hs_impl_StoreTracks_0 (M : FOps) (v0 : ByteArray) (v1 : (List (ByteArray × (List (Nat × Nat))))) (v2 : Int) (v3 : Int) (v4 : ByteArray) (v5 : Bool) : cwp M Tryd.prog (envOf [(9, S_impl_ValidTrack M), (27, S_impl_trackBytes M), (35, S_impl_areAll_impl_Track M)]) (lamOf []) 40 ((loopsOf (Tryd.f11.body.getD .skip)).getD 0 .skip) 1 (stepK (.cons (.tv 4 false .str) (.cons (.tv 15 true (.ls (.pair .str (.ls (.pair (.fl .f32) (.fl .f32)))))) (.cons (.tv 16 false (.int .i64)) (.cons (.tv 17 false (.int .i64)) (.cons (.tv 2 false .str) (.cons (.tv 3 false .bool) .nil)))))) [((.exit 0), (.cons (.tv 4 false .str) (.cons (.tv 2 false .str) (.cons (.tv 3 false .bool) .nil))))]) (canon (.cons (.tv 4 false .str) (.cons (.tv 15 true (.ls (.pair .str (.ls (.pair (.fl .f32) (.fl .f32)))))) (.cons (.tv 16 false (.int .i64)) (.cons (.tv 17 false (.int .i64)) (.cons (.tv 2 false .str) (.cons (.tv 3 false .bool) .nil)))))) 0 0 (v0, (v1, (v2, (v3, (v4, (v5, ()))))))) = st_impl_StoreTracks_0 M v0 v1 v2 v3 v4 v5 := by
  unfold st_impl_StoreTracks_0
  kernel_rfl
set_option maxRecDepth 100000 in
theorem lk_impl_StoreTracks_0 : LOk Tryd.prog Tryd.f11.ntmps ((loopsOf (Tryd.f11.body.getD .skip)).getD 0 .skip) (L_impl_StoreTracks_0 R) :=
  lok (F := 40) (Λ := lamOf []) (b := 1) (good_cons ok_impl_ValidTrack (good_cons ok_impl_trackBytes (good_cons ok_impl_areAll_impl_Track good_nil))) follows (by kernel_rfl) (fun _ _ _ _ h => nomatch h) (by decide) (by decide) (by decide) (fun x => hs_impl_StoreTracks_0 R x.1 x.2.1 x.2.2.1 x.2.2.2.1 x.2.2.2.2.1 x.2.2.2.2.2.1)
set_option maxRecDepth 100000 in
theorem e_impl_StoreTracks (M : FOps) (a0 : (List (ByteArray × (List (Nat × Nat))))) (h : r_impl_StoreTracks M a0 = true) : cwp M Tryd.prog (envOf [(9, S_impl_ValidTrack M), (27, S_impl_trackBytes M), (35, S_impl_areAll_impl_Track M)]) (lamOf [(0, L_impl_StoreTracks_0 M)]) 40 (Tryd.f11.body.getD .skip) 0 (retK Tryd.prog Tryd.f11.results.toList (.cons (.one .str) (.cons (.one .bool) .nil)) 0) (initSt (.cons (.one (.ls (.pair .str (.ls (.pair (.fl .f32) (.fl .f32)))))) .nil) (a0, ())) = some (F_impl_StoreTracks (p_impl_StoreTracks M a0)) := 
  Eq.trans (b := (brT (decide ((↑a0.length : Int) > 8)) (some (F_impl_StoreTracks (((ByteArray.mk #[]), false)))) (brT (r_impl_areAll_impl_Track M a0) (brT (!p_impl_areAll_impl_Track M a0) (some (F_impl_StoreTracks (((ByteArray.mk #[]), false)))) (brT ((c0_impl_StoreTracks M a0).isSome) (some (F_impl_StoreTracks ((((c0_impl_StoreTracks M a0).getD ((ByteArray.mk #[]), (ByteArray.mk #[]), false, ())).fst, true)))) none)) none))) (by kernel_rfl)
    ((pushR (fun _ => rfl) (pushL (pushR (fun _ => rfl) (pushL (fun _ => rfl))))) h)
theorem ok_impl_StoreTracks : OkFn Tryd.prog 11 (S_impl_StoreTracks R) :=
  okFn_of (good_cons ok_impl_ValidTrack (good_cons ok_impl_trackBytes (good_cons ok_impl_areAll_impl_Track good_nil))) follows Tryd.func11 rfl (by decide) (by decide) (lam_cons (i := 0) (cc := (loopsOf (Tryd.f11.body.getD .skip)).getD 0 .skip) (by kernel_rfl) lk_impl_StoreTracks_0 lam_nil) (m := 1) (fun _ => rfl) (by decide) (fun _ _ h => nomatch h) (fun _ _ h => nomatch h) (fun x hx => ⟨40, e_impl_StoreTracks R x.1 hx⟩)

end Go.Proofs.YtgfplcpjnlignaaDoor
