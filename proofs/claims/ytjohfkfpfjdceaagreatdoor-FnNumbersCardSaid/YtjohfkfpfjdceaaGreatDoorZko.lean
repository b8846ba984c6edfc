/- Printed by gen2.py. -/
import Derived.Test.YtjohfkfpfjdceaaGreatDoorWko
import Derived.Test.YtjohfkfpfjdceaaGreatDoorZkn

set_option linter.unusedVariables false
set_option linter.unusedSimpArgs false

-- GENERATED BELOW (gen.py)
namespace Go.Proofs.YtjohfkfpfjdceaaGreatDoor
open Go Go.Cv Go.Dv
set_option maxRecDepth 100000 in
theorem hs_impl_readTexts_float32_k_0 (M : FOps) (v0 : Int) (v1 : (List Nat)) (v2 : (List ByteArray)) (v3 : Int) (v4 : Int) (v5 : (List Nat)) (v6 : Bool) : cwp M Tryz.prog (envOf [(76, S_impl_readBits M), (102, S_strings_Split M)]) (lamOf []) 40 ((loopsOf (Tryz.f75.body.getD .skip)).getD 0 .skip) 1 (stepK (.cons (.tv 1 false (.int .i64)) (.cons (.tf 2 76) (.cons (.to 8 1 (.fl .f32)) (.cons (.to 16 0 .str) (.cons (.tv 17 false (.int .i64)) (.cons (.tv 18 false (.int .i64)) (.cons (.to 6 2 (.fl .f32)) (.cons (.tv 7 false .bool) .nil)))))))) [(.ret, (.cons (.tn 6) (.cons (.tv 7 false .bool) .nil))), ((.exit 0), (.cons (.to 8 1 (.fl .f32)) (.cons (.to 6 2 (.fl .f32)) (.cons (.tv 7 false .bool) .nil))))]) (canon (.cons (.tv 1 false (.int .i64)) (.cons (.tf 2 76) (.cons (.to 8 1 (.fl .f32)) (.cons (.to 16 0 .str) (.cons (.tv 17 false (.int .i64)) (.cons (.tv 18 false (.int .i64)) (.cons (.to 6 2 (.fl .f32)) (.cons (.tv 7 false .bool) .nil)))))))) 3 0 (v0, ((), (v1, (v2, (v3, (v4, (v5, (v6, ()))))))))) = st_impl_readTexts_float32_k_0 M v0 v1 v2 v3 v4 v5 v6 := by
  unfold st_impl_readTexts_float32_k_0
  kernel_rfl
set_option maxRecDepth 100000 in
theorem lk_impl_readTexts_float32_k_0 : LOk Tryz.prog Tryz.f75.ntmps ((loopsOf (Tryz.f75.body.getD .skip)).getD 0 .skip) (L_impl_readTexts_float32_k_0 R) :=
  lok (F := 40) (Λ := lamOf []) (b := 1) (good_cons ok_impl_readBits (good_cons ok_strings_Split good_nil)) follows (by kernel_rfl) (fun _ _ _ _ h => nomatch h) (by decide) (by decide) (by decide) (fun x => hs_impl_readTexts_float32_k_0 R x.1 x.2.2.1 x.2.2.2.1 x.2.2.2.2.1 x.2.2.2.2.2.1 x.2.2.2.2.2.2.1 x.2.2.2.2.2.2.2.1)
set_option maxRecDepth 100000 in
theorem e_impl_readTexts_float32_k (M : FOps) (a0 : ByteArray) (a1 : Int) (h : r_impl_readTexts_float32_k M a0 a1 = true) : cwp M Tryz.prog (envOf [(76, S_impl_readBits M), (102, S_strings_Split M)]) (lamOf [(0, L_impl_readTexts_float32_k_0 M)]) 40 (Tryz.f75.body.getD .skip) 0 (retK Tryz.prog Tryz.f75.results.toList (.cons (.one (.ls (.fl .f32))) (.cons (.one .bool) .nil)) 0) (initSt (.cons (.one .str) (.cons (.one (.int .i64)) (.cons (.fn 76 .nil) .nil))) (a0, (a1, ((), ())))) = some (F_impl_readTexts_float32_k (p_impl_readTexts_float32_k M a0 a1)) := 
  Eq.trans (b := (brT (a0.toList == (ByteArray.mk #[110, 111, 110, 101]).toList) (some (F_impl_readTexts_float32_k (([], true)))) (brT (r_strings_Split M a0 (ByteArray.mk #[44])) (brT ((c0_impl_readTexts_float32_k M a0 a1).length.beq (c0_impl_readTexts_float32_k M a0 a1).length && true) (brT ((c1_impl_readTexts_float32_k M a0 a1).isSome) (brT (isL ((c1_impl_readTexts_float32_k M a0 a1).getD (Sum.inl ((), false, ())))) (some (F_impl_readTexts_float32_k (([], (getL ((), false, ()) ((c1_impl_readTexts_float32_k M a0 a1).getD (Sum.inl ((), false, ())))).snd.fst)))) (brT ((List.length (getR ([], [], false, ()) ((c1_impl_readTexts_float32_k M a0 a1).getD (Sum.inl ((), false, ())))).fst).beq (List.length (getR ([], [], false, ()) ((c1_impl_readTexts_float32_k M a0 a1).getD (Sum.inl ((), false, ())))).fst) && true) (some (F_impl_readTexts_float32_k (((getR ([], [], false, ()) ((c1_impl_readTexts_float32_k M a0 a1).getD (Sum.inl ((), false, ())))).fst, true)))) none)) none) none) none))) (by kernel_rfl)
    ((pushR (fun _ => rfl) (pushL (pushL (pushL (pushR (fun _ => rfl) (pushL (fun _ => rfl))))))) h)
theorem ok_impl_readTexts_float32_k : OkFn Tryz.prog 75 (S_impl_readTexts_float32_k R) :=
  okFn_of (good_cons ok_impl_readBits (good_cons ok_strings_Split good_nil)) follows Tryz.func75 rfl (by decide) (by decide) (lam_cons (i := 0) (cc := (loopsOf (Tryz.f75.body.getD .skip)).getD 0 .skip) (by kernel_rfl) lk_impl_readTexts_float32_k_0 lam_nil) (m := 3) (fun _ => rfl) (by decide) (fun _ _ h => nomatch h) (fun y c h => by simp [encR, encC] at h; first | (subst h; exact ⟨_, _, rfl⟩) | (rcases h with rfl | rfl <;> exact ⟨_, _, rfl⟩) | (rcases h with rfl | rfl | rfl <;> exact ⟨_, _, rfl⟩)) (fun x hx => ⟨40, e_impl_readTexts_float32_k R x.1 x.2.1 hx⟩)

set_option maxRecDepth 100000 in
theorem e_impl_ReadNumbers (M : FOps) (a0 : ByteArray) (h : r_impl_ReadNumbers M a0 = true) : cwp M Tryz.prog (envOf [(75, S_impl_readTexts_float32_k M), (76, S_impl_readBits M)]) (lamOf []) 40 (Tryz.f33.body.getD .skip) 0 (retK Tryz.prog Tryz.f33.results.toList (.cons (.one (.ls (.fl .f32))) (.cons (.one .bool) .nil)) 0) (initSt (.cons (.one .str) .nil) (a0, ())) = some (F_impl_ReadNumbers (p_impl_ReadNumbers M a0)) := 
  Eq.trans (b := (brT (r_impl_readTexts_float32_k M a0 256) (brT ((c0_impl_ReadNumbers M a0).fst.length.beq (c0_impl_ReadNumbers M a0).fst.length && true) (some (F_impl_ReadNumbers (((c0_impl_ReadNumbers M a0).fst, (c0_impl_ReadNumbers M a0).snd)))) none) none)) (by kernel_rfl)
    ((pushL (pushL (fun _ => rfl))) h)
theorem ok_impl_ReadNumbers : OkFn Tryz.prog 33 (S_impl_ReadNumbers R) :=
  okFn_of (good_cons ok_impl_readTexts_float32_k (good_cons ok_impl_readBits good_nil)) follows Tryz.func33 rfl (by decide) (by decide) lam_nil (m := 1) (fun _ => rfl) (by decide) (fun _ _ h => nomatch h) (fun y c h => by simp [encR, encC] at h; first | (subst h; exact ⟨_, _, rfl⟩) | (rcases h with rfl | rfl <;> exact ⟨_, _, rfl⟩) | (rcases h with rfl | rfl | rfl <;> exact ⟨_, _, rfl⟩)) (fun x hx => ⟨40, e_impl_ReadNumbers R x.1 hx⟩)

set_option maxRecDepth 100000 in
theorem e_spec_l01From (M : FOps) (a0 : Int) (h : r_spec_l01From M a0 = true) : cwp M Tryz.prog (envOf [(61, S_math_Float32frombits M)]) (lamOf []) 40 (Tryz.f58.body.getD .skip) 0 (retK Tryz.prog Tryz.f58.results.toList (.cons (.one (.fl .f32)) .nil) 0) (initSt (.cons (.one (.int .i64)) .nil) (a0, ())) = some (F_spec_l01From (p_spec_l01From M a0)) := 
  Eq.trans (b := (brT (decide (0 ≤ IntKind.u32.wrap a0) && decide (IntKind.u32.wrap a0 < 4294967296)) (some (F_spec_l01From (p_math_Float32frombits M (IntKind.u32.wrap a0)))) none)) (by kernel_rfl)
    ((pushL (fun _ => rfl)) h)
theorem ok_spec_l01From : OkFn Tryz.prog 58 (S_spec_l01From R) :=
  okFn_of (good_cons ok_math_Float32frombits good_nil) follows Tryz.func58 rfl (by decide) (by decide) lam_nil (m := 1) (fun _ => rfl) (by decide) (fun _ _ h => nomatch h) (fun _ _ h => nomatch h) (fun x hx => ⟨40, e_spec_l01From R x.1 hx⟩)

end Go.Proofs.YtjohfkfpfjdceaaGreatDoor
