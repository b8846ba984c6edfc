/- Printed by gen2.py. -/
import Derived.Test.YtjohfkfpfjdceaaGreatDoorWkn
import Derived.Test.YtjohfkfpfjdceaaGreatDoorZkm
import Derived.Test.YtjohfkfpfjdceaaGreatDoorZkb

set_option linter.unusedVariables false
set_option linter.unusedSimpArgs false

-- GENERATED BELOW (gen.py)
namespace Go.Proofs.YtjohfkfpfjdceaaGreatDoor
open Go Go.Cv Go.Dv
set_option maxRecDepth 100000 in
theorem e_internal_strconv_lower (M : FOps) (a0 : Int) : cwp M Tryz.prog (envOf []) (lamOf []) 40 (Tryz.f167.body.getD .skip) 0 (retK Tryz.prog Tryz.f167.results.toList (.cons (.one (.int .u8)) .nil) 0) (initSt (.cons (.one (.int .u8)) .nil) (a0, ())) = some (F_internal_strconv_lower (p_internal_strconv_lower M a0)) := by kernel_rfl
theorem ok_internal_strconv_lower : OkFn Tryz.prog 167 (S_internal_strconv_lower R) :=
  okFn_of good_nil follows Tryz.func167 rfl (by decide) (by decide) lam_nil (m := 1) (fun _ => rfl) (by decide) (fun _ _ h => nomatch h) (fun _ _ h => nomatch h) (fun x _ => ⟨40, e_internal_strconv_lower R x.1⟩)

set_option maxRecDepth 100000 in
theorem hs_internal_strconv_ParseUint_16_0 (M : FOps) (v0 : Int) (v1 : Bool) (v2 : Int) (v3 : Int) (v4 : Int) (v5 : (List Int)) (v6 : Int) (v7 : Int) (v8 : ByteArray) (v9 : Bool) (v10 : Int) (v11 : Ifc) : cwp M Tryz.prog (envOf [(167, S_internal_strconv_lower M)]) (lamOf []) 40 ((loopsOf (Tryz.f134.body.getD .skip)).getD 0 .skip) 1 (stepK (.cons (.tv 1 false (.int .i64)) (.cons (.tv 8 false .bool) (.cons (.tv 10 false (.int .u64)) (.cons (.tv 11 false (.int .u64)) (.cons (.tv 13 false (.int .u64)) (.cons (.to 99 0 (.int .u8)) (.cons (.tv 100 false (.int .i64)) (.cons (.tv 101 false (.int .i64)) (.cons (.tv 9 false .str) (.cons (.tv 12 false .bool) (.cons (.tv 6 false (.int .u64)) (.cons (.tv 7 false .ifc) .nil)))))))))))) [(.ret, (.cons (.tv 6 false (.int .u64)) (.cons (.tv 7 false .ifc) .nil))), ((.exit 3), (.cons (.tv 9 false .str) (.cons (.tv 12 false .bool) (.cons (.tv 13 false (.int .u64)) (.cons (.tv 6 false (.int .u64)) (.cons (.tv 7 false .ifc) .nil))))))]) (canon (.cons (.tv 1 false (.int .i64)) (.cons (.tv 8 false .bool) (.cons (.tv 10 false (.int .u64)) (.cons (.tv 11 false (.int .u64)) (.cons (.tv 13 false (.int .u64)) (.cons (.to 99 0 (.int .u8)) (.cons (.tv 100 false (.int .i64)) (.cons (.tv 101 false (.int .i64)) (.cons (.tv 9 false .str) (.cons (.tv 12 false .bool) (.cons (.tv 6 false (.int .u64)) (.cons (.tv 7 false .ifc) .nil)))))))))))) 1 0 (v0, (v1, (v2, (v3, (v4, (v5, (v6, (v7, (v8, (v9, (v10, (v11, ()))))))))))))) = st_internal_strconv_ParseUint_16_0 M v0 v1 v2 v3 v4 v5 v6 v7 v8 v9 v10 v11 := by
  unfold st_internal_strconv_ParseUint_16_0
  kernel_rfl
set_option maxRecDepth 100000 in
theorem lk_internal_strconv_ParseUint_16_0 : LOk Tryz.prog Tryz.f134.ntmps ((loopsOf (Tryz.f134.body.getD .skip)).getD 0 .skip) (L_internal_strconv_ParseUint_16_0 R) :=
  lok (F := 40) (Λ := lamOf []) (b := 1) (good_cons ok_internal_strconv_lower good_nil) follows (by kernel_rfl) (fun _ _ _ _ h => nomatch h) (by decide) (by decide) (by decide) (fun x => hs_internal_strconv_ParseUint_16_0 R x.1 x.2.1 x.2.2.1 x.2.2.2.1 x.2.2.2.2.1 x.2.2.2.2.2.1 x.2.2.2.2.2.2.1 x.2.2.2.2.2.2.2.1 x.2.2.2.2.2.2.2.2.1 x.2.2.2.2.2.2.2.2.2.1 x.2.2.2.2.2.2.2.2.2.2.1 x.2.2.2.2.2.2.2.2.2.2.2.1)
set_option maxRecDepth 100000 in
theorem e_internal_strconv_ParseUint_16 (M : FOps) (a0 : ByteArray) (h : r_internal_strconv_ParseUint_16 M a0 = true) : cwp M Tryz.prog (envOf [(167, S_internal_strconv_lower M)]) (lamOf [(0, L_internal_strconv_ParseUint_16_0 M)]) 40 (Tryz.f134.body.getD .skip) 0 (retK Tryz.prog Tryz.f134.results.toList (.cons (.one (.int .u64)) (.cons (.one .ifc) .nil)) 0) (initSt (.cons (.one .str) (.cons (.lit (.int .i64 16)) (.cons (.lit (.int .i64 32)) .nil))) (a0, ((), ((), ())))) = some (F_internal_strconv_ParseUint_16 (p_internal_strconv_ParseUint_16 M a0)) := 
  Eq.trans (b := (brT (a0.toList == (ByteArray.mk #[]).toList) (some (F_internal_strconv_ParseUint_16 ((0, some (some (182, Value.int IntKind.i64 2)))))) (brT (a0.size.ble 1073741824) (brT ((c0_internal_strconv_ParseUint_16 M a0).length.beq (c0_internal_strconv_ParseUint_16 M a0).length && true) (brT ((c1_internal_strconv_ParseUint_16 M a0).isSome) (brT (isL ((c1_internal_strconv_ParseUint_16 M a0).getD (Sum.inl (0, none, ())))) (some (F_internal_strconv_ParseUint_16 (((getL (0, none, ()) ((c1_internal_strconv_ParseUint_16 M a0).getD (Sum.inl (0, none, ())))).fst, (getL (0, none, ()) ((c1_internal_strconv_ParseUint_16 M a0).getD (Sum.inl (0, none, ())))).snd.fst)))) (brT ((getR ((ByteArray.mk #[]), false, 0, 0, none, ()) ((c1_internal_strconv_ParseUint_16 M a0).getD (Sum.inl (0, none, ())))).snd.fst) none (some (F_internal_strconv_ParseUint_16 (((getR ((ByteArray.mk #[]), false, 0, 0, none, ()) ((c1_internal_strconv_ParseUint_16 M a0).getD (Sum.inl (0, none, ())))).snd.snd.fst, none)))))) none) none) none))) (by kernel_rfl)
    ((pushR (fun _ => rfl) (pushL (pushL (pushL (pushR (fun _ => rfl) (pushN (fun _ => rfl))))))) h)
theorem ok_internal_strconv_ParseUint_16 : OkFn Tryz.prog 134 (S_internal_strconv_ParseUint_16 R) :=
  okFn_of (good_cons ok_internal_strconv_lower good_nil) follows Tryz.func134 rfl (by decide) (by decide) (lam_cons (i := 0) (cc := (loopsOf (Tryz.f134.body.getD .skip)).getD 0 .skip) (by kernel_rfl) lk_internal_strconv_ParseUint_16_0 lam_nil) (m := 3) (fun _ => rfl) (by decide) (fun _ _ h => nomatch h) (fun _ _ h => nomatch h) (fun x hx => ⟨40, e_internal_strconv_ParseUint_16 R x.1 hx⟩)

set_option maxRecDepth 100000 in
theorem e_strconv_ParseUint_16 (M : FOps) (a0 : ByteArray) (h : r_strconv_ParseUint_16 M a0 = true) : cwp M Tryz.prog (envOf [(134, S_internal_strconv_ParseUint_16 M), (135, S_strconv_toError M)]) (lamOf []) 40 (Tryz.f110.body.getD .skip) 0 (retK Tryz.prog Tryz.f110.results.toList (.cons (.one (.int .u64)) (.cons (.one .ifc) .nil)) 0) (initSt (.cons (.one .str) (.cons (.lit (.int .i64 16)) (.cons (.lit (.int .i64 32)) .nil))) (a0, ((), ((), ())))) = some (F_strconv_ParseUint_16 (p_strconv_ParseUint_16 M a0)) := 
  Eq.trans (b := (brT (r_internal_strconv_ParseUint_16 M a0) (brT (!p_isNil (c0_strconv_ParseUint_16 M a0).snd) (brT (r_strconv_toError M (ByteArray.mk #[80, 97, 114, 115, 101, 85, 105, 110, 116]) a0 16 32 (c0_strconv_ParseUint_16 M a0).snd) (some (F_strconv_ParseUint_16 (((c0_strconv_ParseUint_16 M a0).fst, p_strconv_toError M (ByteArray.mk #[80, 97, 114, 115, 101, 85, 105, 110, 116]) a0 16 32 (c0_strconv_ParseUint_16 M a0).snd)))) none) (some (F_strconv_ParseUint_16 (((c0_strconv_ParseUint_16 M a0).fst, none))))) none)) (by kernel_rfl)
    ((pushL (pushR (pushL (fun _ => rfl)) (fun _ => rfl))) h)
theorem ok_strconv_ParseUint_16 : OkFn Tryz.prog 110 (S_strconv_ParseUint_16 R) :=
  okFn_of (good_cons ok_internal_strconv_ParseUint_16 (good_cons ok_strconv_toError good_nil)) follows Tryz.func110 rfl (by decide) (by decide) lam_nil (m := 3) (fun _ => rfl) (by decide) (fun _ _ h => nomatch h) (fun _ _ h => nomatch h) (fun x hx => ⟨40, e_strconv_ParseUint_16 R x.1 hx⟩)

set_option maxRecDepth 100000 in
theorem e_impl_readBits (M : FOps) (a0 : ByteArray) (h : r_impl_readBits M a0 = true) : cwp M Tryz.prog (envOf [(110, S_strconv_ParseUint_16 M), (61, S_math_Float32frombits M), (74, S_impl_bitsText M)]) (lamOf []) 40 (Tryz.f76.body.getD .skip) 0 (retK Tryz.prog Tryz.f76.results.toList (.cons (.one (.fl .f32)) (.cons (.one .bool) .nil)) 0) (initSt (.cons (.one .str) .nil) (a0, ())) = some (F_impl_readBits (p_impl_readBits M a0)) := 
  Eq.trans (b := (brT (r_strconv_ParseUint_16 M a0) (brT (!p_isNil (c0_impl_readBits M a0).snd) (some (F_impl_readBits ((0, false)))) (brT (decide (0 ≤ IntKind.u32.wrap (c0_impl_readBits M a0).fst) && decide (IntKind.u32.wrap (c0_impl_readBits M a0).fst < 4294967296)) (brT (r_impl_bitsText M (c1_impl_readBits M a0)) (some (F_impl_readBits (((c1_impl_readBits M a0), (p_impl_bitsText M (c1_impl_readBits M a0)).toList == a0.toList)))) none) none)) none)) (by kernel_rfl)
    ((pushL (pushR (fun _ => rfl) (pushL (pushL (fun _ => rfl))))) h)
theorem ok_impl_readBits : OkFn Tryz.prog 76 (S_impl_readBits R) :=
  okFn_of (good_cons ok_strconv_ParseUint_16 (good_cons ok_math_Float32frombits (good_cons ok_impl_bitsText good_nil))) follows Tryz.func76 rfl (by decide) (by decide) lam_nil (m := 1) (fun _ => rfl) (by decide) (fun _ _ h => nomatch h) (fun _ _ h => nomatch h) (fun x hx => ⟨40, e_impl_readBits R x.1 hx⟩)

end Go.Proofs.YtjohfkfpfjdceaaGreatDoor
