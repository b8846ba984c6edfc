/- Printed by gen2.py. -/
import Derived.Test.YtgfplcpjnlignaaDoorWkh
import Derived.Test.YtgfplcpjnlignaaDoorZli
import Derived.Test.YtgfplcpjnlignaaDoorZke

set_option linter.unusedVariables false
set_option linter.unusedSimpArgs false

-- GENERATED BELOW (gen.py)
namespace Go.Proofs.YtgfplcpjnlignaaDoor
open Go Go.Cv Go.Dv
set_option maxRecDepth 100000 in
theorem e_spec_PlaceOfSteps (M : FOps) (a0 : Int) (a1 : Int) : cwp M Tryd.prog (envOf [(46, S_spec_l00In M)]) (lamOf []) 40 (Tryd.f26.body.getD .skip) 0 (retK Tryd.prog Tryd.f26.results.toList (.cons (.agg (.pair (.fl .f32) (.fl .f32))) (.cons (.one .bool) .nil)) 0) (initSt (.cons (.one (.int .i64)) (.cons (.one (.int .i64)) .nil)) (a0, (a1, ()))) = some (F_spec_PlaceOfSteps (p_spec_PlaceOfSteps M a0 a1)) := 
  Eq.trans (b := (brT (!p_spec_l00In M a0 (Int.negSucc 4194303) 4194304) (some (F_spec_PlaceOfSteps ((0, 0, false)))) (brT (!p_spec_l00In M a1 (Int.negSucc 8388607) 8388607) (some (F_spec_PlaceOfSteps ((0, 0, false)))) (some (F_spec_PlaceOfSteps ((M.bin BinOp.quo FloatKind.f32 (M.ofi FloatKind.f32 a0) 1266679808, M.bin BinOp.quo FloatKind.f32 (M.ofi FloatKind.f32 a1) 1266679808, true))))))) (by kernel_rfl)
    ((push2 rfl (push2 rfl rfl)))
theorem ok_spec_PlaceOfSteps : OkFn Tryd.prog 26 (S_spec_PlaceOfSteps R) :=
  okFn_of (good_cons ok_spec_l00In good_nil) follows Tryd.func26 rfl (by decide) (by decide) lam_nil (m := 2) (fun _ => rfl) (by decide) (fun _ _ h => nomatch h) (fun _ _ h => nomatch h) (fun x _ => ⟨40, e_spec_PlaceOfSteps R x.1 x.2.1⟩)

set_option maxRecDepth 100000 in
theorem e_impl_IsName (M : FOps) (a0 : ByteArray) (h : r_impl_IsName M a0 = true) : cwp M Tryd.prog (envOf [(41, S_impl_within M), (44, S_strings_Trim M)]) (lamOf []) 40 (Tryd.f29.body.getD .skip) 0 (retK Tryd.prog Tryd.f29.results.toList (.cons (.one .bool) .nil) 0) (initSt (.cons (.one .str) .nil) (a0, ())) = some (F_impl_IsName (p_impl_IsName M a0)) := 
  Eq.trans (b := (brT (p_impl_within M (↑a0.size : Int) 1 8) (brT (r_strings_Trim M a0 { data := #[97, 98, 99, 100, 101, 102, 103, 104, 105, 106, 107, 108, 109, 110, 111, 112, 113, 114, 115, 116, 117, 118, 119, 120, 121, 122] }) (some (F_impl_IsName ((p_strings_Trim M a0 { data := #[97, 98, 99, 100, 101, 102, 103, 104, 105, 106, 107, 108, 109, 110, 111, 112, 113, 114, 115, 116, 117, 118, 119, 120, 121, 122] }).toList == (ByteArray.mk #[]).toList))) none) (some (F_impl_IsName (false))))) (by kernel_rfl)
    ((pushR (pushL (fun _ => rfl)) (fun _ => rfl)) h)
theorem ok_impl_IsName : OkFn Tryd.prog 29 (S_impl_IsName R) :=
  okFn_of (good_cons ok_impl_within (good_cons ok_strings_Trim good_nil)) follows Tryd.func29 rfl (by decide) (by decide) lam_nil (m := 1) (fun _ => rfl) (by decide) (fun _ _ h => nomatch h) (fun _ _ h => nomatch h) (fun x hx => ⟨40, e_impl_IsName R x.1 hx⟩)

set_option maxRecDepth 100000 in
theorem e_impl_stepOf (M : FOps) (a0 : Nat) (h : r_impl_stepOf M a0 = true) : cwp M Tryd.prog (envOf [(90, S_math_Floor M)]) (lamOf []) 40 (Tryd.f82.body.getD .skip) 0 (retK Tryd.prog Tryd.f82.results.toList (.cons (.one (.int .i64)) .nil) 0) (initSt (.cons (.one (.fl .f32)) .nil) (a0, ())) = some (F_impl_stepOf (p_impl_stepOf M a0)) := 
  Eq.trans (b := (brT (M.toiOk FloatKind.f64 (c0_impl_stepOf M a0) IntKind.i64) (some (F_impl_stepOf (M.toi FloatKind.f64 (c0_impl_stepOf M a0) IntKind.i64))) none)) (by kernel_rfl)
    ((pushL (fun _ => rfl)) h)
theorem ok_impl_stepOf : OkFn Tryd.prog 82 (S_impl_stepOf R) :=
  okFn_of (good_cons ok_math_Floor good_nil) follows Tryd.func82 rfl (by decide) (by decide) lam_nil (m := 1) (fun _ => rfl) (by decide) (fun _ _ h => nomatch h) (fun _ _ h => nomatch h) (fun x hx => ⟨40, e_impl_stepOf R x.1 hx⟩)

set_option maxRecDepth 100000 in
theorem e_impl_StepsOf (M : FOps) (a0_0 : Nat) (a0_1 : Nat) (h : r_impl_StepsOf M a0_0 a0_1 = true) : cwp M Tryd.prog (envOf [(36, S_impl_ValidPlace M), (82, S_impl_stepOf M)]) (lamOf []) 40 (Tryd.f63.body.getD .skip) 0 (retK Tryd.prog Tryd.f63.results.toList (.cons (.one (.int .i64)) (.cons (.one (.int .i64)) (.cons (.one .bool) .nil))) 0) (initSt (.cons (.agg (.pair (.fl .f32) (.fl .f32))) .nil) ((a0_0, a0_1), ())) = some (F_impl_StepsOf (p_impl_StepsOf M a0_0 a0_1)) := 
  Eq.trans (b := (brT (!p_impl_ValidPlace M a0_0 a0_1) (some (F_impl_StepsOf ((0, 0, false)))) (brT (r_impl_stepOf M a0_0) (brT (r_impl_stepOf M a0_1) (brT ((c0_impl_StepsOf M a0_0 a0_1) == 8388608) (some (F_impl_StepsOf ((p_impl_stepOf M a0_0, Int.negSucc 8388607, true)))) (some (F_impl_StepsOf ((p_impl_stepOf M a0_0, (c0_impl_StepsOf M a0_0 a0_1), true))))) none) none))) (by kernel_rfl)
    ((pushR (fun _ => rfl) (pushL (pushL (fun _ => (push2 rfl rfl))))) h)
theorem ok_impl_StepsOf : OkFn Tryd.prog 63 (S_impl_StepsOf R) :=
  okFn_of (good_cons ok_impl_ValidPlace (good_cons ok_impl_stepOf good_nil)) follows Tryd.func63 rfl (by decide) (by decide) lam_nil (m := 1) (fun _ => rfl) (by decide) (fun _ _ h => nomatch h) (fun _ _ h => nomatch h) (fun x hx => ⟨40, e_impl_StepsOf R x.1.1 x.1.2 hx⟩)

set_option maxRecDepth 100000 in
theorem e_impl_PlaceOfSteps (M : FOps) (a0 : Int) (a1 : Int) : cwp M Tryd.prog (envOf [(41, S_impl_within M)]) (lamOf []) 40 (Tryd.f43.body.getD .skip) 0 (retK Tryd.prog Tryd.f43.results.toList (.cons (.agg (.pair (.fl .f32) (.fl .f32))) (.cons (.one .bool) .nil)) 0) (initSt (.cons (.one (.int .i64)) (.cons (.one (.int .i64)) .nil)) (a0, (a1, ()))) = some (F_impl_PlaceOfSteps (p_impl_PlaceOfSteps M a0 a1)) := 
  Eq.trans (b := (brT (!p_impl_within M a0 (Int.negSucc 4194303) 4194304) (some (F_impl_PlaceOfSteps ((0, 0, false)))) (brT (!p_impl_within M a1 (Int.negSucc 8388607) 8388607) (some (F_impl_PlaceOfSteps ((0, 0, false)))) (some (F_impl_PlaceOfSteps ((M.bin BinOp.quo FloatKind.f32 (M.ofi FloatKind.f32 a0) 1266679808, M.bin BinOp.quo FloatKind.f32 (M.ofi FloatKind.f32 a1) 1266679808, true))))))) (by kernel_rfl)
    ((push2 rfl (push2 rfl rfl)))
theorem ok_impl_PlaceOfSteps : OkFn Tryd.prog 43 (S_impl_PlaceOfSteps R) :=
  okFn_of (good_cons ok_impl_within good_nil) follows Tryd.func43 rfl (by decide) (by decide) lam_nil (m := 2) (fun _ => rfl) (by decide) (fun _ _ h => nomatch h) (fun _ _ h => nomatch h) (fun x _ => ⟨40, e_impl_PlaceOfSteps R x.1 x.2.1⟩)

set_option maxRecDepth 100000 in
theorem e_impl_SamePlace (M : FOps) (a0_0 : Nat) (a0_1 : Nat) (a1_0 : Nat) (a1_1 : Nat) (h : r_impl_SamePlace M a0_0 a0_1 a1_0 a1_1 = true) : cwp M Tryd.prog (envOf [(59, S_impl_SameNumber M)]) (lamOf []) 40 (Tryd.f34.body.getD .skip) 0 (retK Tryd.prog Tryd.f34.results.toList (.cons (.one .bool) .nil) 0) (initSt (.cons (.agg (.pair (.fl .f32) (.fl .f32))) (.cons (.agg (.pair (.fl .f32) (.fl .f32))) .nil)) ((a0_0, a0_1), ((a1_0, a1_1), ()))) = some (F_impl_SamePlace (p_impl_SamePlace M a0_0 a0_1 a1_0 a1_1)) := 
  Eq.trans (b := (brT (r_impl_SameNumber M a0_0 a1_0) (brT (p_impl_SameNumber M a0_0 a1_0) (brT (r_impl_SameNumber M a0_1 a1_1) (some (F_impl_SamePlace (p_impl_SameNumber M a0_1 a1_1))) none) (some (F_impl_SamePlace (false)))) none)) (by kernel_rfl)
    ((pushL (pushR (pushL (fun _ => rfl)) (fun _ => rfl))) h)
theorem ok_impl_SamePlace : OkFn Tryd.prog 34 (S_impl_SamePlace R) :=
  okFn_of (good_cons ok_impl_SameNumber good_nil) follows Tryd.func34 rfl (by decide) (by decide) lam_nil (m := 2) (fun _ => rfl) (by decide) (fun _ _ h => nomatch h) (fun _ _ h => nomatch h) (fun x hx => ⟨40, e_impl_SamePlace R x.1.1 x.1.2 x.2.1.1 x.2.1.2 hx⟩)

set_option maxRecDepth 100000 in
theorem e_impl_isPacked (M : FOps) (a0_0 : Nat) (a0_1 : Nat) (h : r_impl_isPacked M a0_0 a0_1 = true) : cwp M Tryd.prog (envOf [(63, S_impl_StepsOf M), (43, S_impl_PlaceOfSteps M), (34, S_impl_SamePlace M)]) (lamOf []) 40 (Tryd.f58.body.getD .skip) 0 (retK Tryd.prog Tryd.f58.results.toList (.cons (.one .bool) .nil) 0) (initSt (.cons (.agg (.pair (.fl .f32) (.fl .f32))) .nil) ((a0_0, a0_1), ())) = some (F_impl_isPacked (p_impl_isPacked M a0_0 a0_1)) := 
  Eq.trans (b := (brT (r_impl_StepsOf M a0_0 a0_1) (brT ((c0_impl_isPacked M a0_0 a0_1).snd.snd) (brT ((c1_impl_isPacked M a0_0 a0_1).snd.snd) (brT (r_impl_SamePlace M a0_0 a0_1 (c1_impl_isPacked M a0_0 a0_1).fst (c1_impl_isPacked M a0_0 a0_1).snd.fst) (some (F_impl_isPacked (p_impl_SamePlace M a0_0 a0_1 (c1_impl_isPacked M a0_0 a0_1).fst (c1_impl_isPacked M a0_0 a0_1).snd.fst))) none) (some (F_impl_isPacked (false)))) (some (F_impl_isPacked (false)))) none)) (by kernel_rfl)
    ((pushL (pushR (pushR (pushL (fun _ => rfl)) (fun _ => rfl)) (fun _ => rfl))) h)
theorem ok_impl_isPacked : OkFn Tryd.prog 58 (S_impl_isPacked R) :=
  okFn_of (good_cons ok_impl_StepsOf (good_cons ok_impl_PlaceOfSteps (good_cons ok_impl_SamePlace good_nil))) follows Tryd.func58 rfl (by decide) (by decide) lam_nil (m := 1) (fun _ => rfl) (by decide) (fun _ _ h => nomatch h) (fun _ _ h => nomatch h) (fun x hx => ⟨40, e_impl_isPacked R x.1.1 x.1.2 hx⟩)

set_option maxRecDepth 100000 in
theorem e_impl_areAll_impl_Place_1 (M : FOps) (a0_0 : Nat) (a0_1 : Nat) (h : r_impl_areAll_impl_Place_1 M a0_0 a0_1 = true) : cwp M Tryd.prog (envOf [(58, S_impl_isPacked M)]) (lamOf []) 40 (Tryd.f79.body.getD .skip) 0 (retK Tryd.prog Tryd.f79.results.toList (.cons (.one .bool) .nil) 0) (initSt (.cons (.agg (.pair (.fl .f32) (.fl .f32))) (.cons (.pf 58) .nil)) ((a0_0, a0_1), ((), ()))) = some (F_impl_areAll_impl_Place_1 (p_impl_areAll_impl_Place_1 M a0_0 a0_1)) := 
  Eq.trans (b := (brT (r_impl_isPacked M a0_0 a0_1) (some (F_impl_areAll_impl_Place_1 (!p_impl_isPacked M a0_0 a0_1))) none)) (by kernel_rfl)
    ((pushL (fun _ => rfl)) h)
theorem ok_impl_areAll_impl_Place_1 : OkFn Tryd.prog 79 (S_impl_areAll_impl_Place_1 R) :=
  okFn_of (good_cons ok_impl_isPacked good_nil) follows Tryd.func79 rfl (by decide) (by decide) lam_nil (m := 2) (fun _ => rfl) (by decide) (fun _ _ h => nomatch h) (fun _ _ h => nomatch h) (fun x hx => ⟨40, e_impl_areAll_impl_Place_1 R x.1.1 x.1.2 hx⟩)

set_option maxRecDepth 100000 in
theorem hs_slices_IndexFunc_impl_Place_impl_Place_k_0 (M : FOps) (v0 : (List (Nat × Nat))) (v1 : Int) (v2 : Int) (v3 : Int) : cwp M Tryd.prog (envOf [(58, S_impl_isPacked M), (79, S_impl_areAll_impl_Place_1 M)]) (lamOf []) 40 ((loopsOf (Tryd.f88.body.getD .skip)).getD 0 .skip) 1 (stepK (.cons (.tv 0 true (.ls (.pair (.fl .f32) (.fl .f32)))) (.cons (.tg 1 79 [(.f 58)]) (.cons (.tv 7 false (.int .i64)) (.cons (.tv 8 false (.int .i64)) (.cons (.tv 4 false (.int .i64)) .nil))))) [(.ret, (.cons (.tv 4 false (.int .i64)) .nil)), ((.exit 0), (.cons (.tv 4 false (.int .i64)) .nil))]) (canon (.cons (.tv 0 true (.ls (.pair (.fl .f32) (.fl .f32)))) (.cons (.tg 1 79 [(.f 58)]) (.cons (.tv 7 false (.int .i64)) (.cons (.tv 8 false (.int .i64)) (.cons (.tv 4 false (.int .i64)) .nil))))) 0 0 (v0, (((), ()), (v1, (v2, (v3, ())))))) = st_slices_IndexFunc_impl_Place_impl_Place_k_0 M v0 v1 v2 v3 := by
  unfold st_slices_IndexFunc_impl_Place_impl_Place_k_0
  kernel_rfl
set_option maxRecDepth 100000 in
theorem lk_slices_IndexFunc_impl_Place_impl_Place_k_0 : LOk Tryd.prog Tryd.f88.ntmps ((loopsOf (Tryd.f88.body.getD .skip)).getD 0 .skip) (L_slices_IndexFunc_impl_Place_impl_Place_k_0 R) :=
  lok (F := 40) (Λ := lamOf []) (b := 1) (good_cons ok_impl_isPacked (good_cons ok_impl_areAll_impl_Place_1 good_nil)) follows (by kernel_rfl) (fun _ _ _ _ h => nomatch h) (by decide) (by decide) (by decide) (fun x => hs_slices_IndexFunc_impl_Place_impl_Place_k_0 R x.1 x.2.2.1 x.2.2.2.1 x.2.2.2.2.1)
set_option maxRecDepth 100000 in
theorem e_slices_IndexFunc_impl_Place_impl_Place_k (M : FOps) (a0 : (List (Nat × Nat))) (h : r_slices_IndexFunc_impl_Place_impl_Place_k M a0 = true) : cwp M Tryd.prog (envOf [(58, S_impl_isPacked M), (79, S_impl_areAll_impl_Place_1 M)]) (lamOf [(0, L_slices_IndexFunc_impl_Place_impl_Place_k_0 M)]) 40 (Tryd.f88.body.getD .skip) 0 (retK Tryd.prog Tryd.f88.results.toList (.cons (.one (.int .i64)) .nil) 0) (initSt (.cons (.one (.ls (.pair (.fl .f32) (.fl .f32)))) (.cons (.fn 79 (.cons (.pf 58) .nil)) .nil)) (a0, (((), ()), ()))) = some (F_slices_IndexFunc_impl_Place_impl_Place_k (p_slices_IndexFunc_impl_Place_impl_Place_k M a0)) := 
  Eq.trans (b := (brT ((c0_slices_IndexFunc_impl_Place_impl_Place_k M a0).isSome) (brT (isL ((c0_slices_IndexFunc_impl_Place_impl_Place_k M a0).getD (Sum.inl (0, ())))) (some (F_slices_IndexFunc_impl_Place_impl_Place_k ((getL (0, ()) ((c0_slices_IndexFunc_impl_Place_impl_Place_k M a0).getD (Sum.inl (0, ())))).fst))) (some (F_slices_IndexFunc_impl_Place_impl_Place_k (Int.negSucc 0)))) none)) (by kernel_rfl)
    ((pushL (fun _ => (push2 rfl rfl))) h)
theorem ok_slices_IndexFunc_impl_Place_impl_Place_k : OkFn Tryd.prog 88 (S_slices_IndexFunc_impl_Place_impl_Place_k R) :=
  okFn_of (good_cons ok_impl_isPacked (good_cons ok_impl_areAll_impl_Place_1 good_nil)) follows Tryd.func88 rfl (by decide) (by decide) (lam_cons (i := 0) (cc := (loopsOf (Tryd.f88.body.getD .skip)).getD 0 .skip) (by kernel_rfl) lk_slices_IndexFunc_impl_Place_impl_Place_k_0 lam_nil) (m := 2) (fun _ => rfl) (by decide) (fun _ _ h => nomatch h) (fun _ _ h => nomatch h) (fun x hx => ⟨40, e_slices_IndexFunc_impl_Place_impl_Place_k R x.1 hx⟩)

set_option maxRecDepth 100000 in
theorem e_slices_ContainsFunc_impl_Place_impl_Place_k (M : FOps) (a0 : (List (Nat × Nat))) (h : r_slices_ContainsFunc_impl_Place_impl_Place_k M a0 = true) : cwp M Tryd.prog (envOf [(58, S_impl_isPacked M), (79, S_impl_areAll_impl_Place_1 M), (88, S_slices_IndexFunc_impl_Place_impl_Place_k M)]) (lamOf []) 40 (Tryd.f78.body.getD .skip) 0 (retK Tryd.prog Tryd.f78.results.toList (.cons (.one .bool) .nil) 0) (initSt (.cons (.one (.ls (.pair (.fl .f32) (.fl .f32)))) (.cons (.fn 79 (.cons (.pf 58) .nil)) .nil)) (a0, (((), ()), ()))) = some (F_slices_ContainsFunc_impl_Place_impl_Place_k (p_slices_ContainsFunc_impl_Place_impl_Place_k M a0)) := 
  Eq.trans (b := (brT (r_slices_IndexFunc_impl_Place_impl_Place_k M a0) (some (F_slices_ContainsFunc_impl_Place_impl_Place_k (decide ((c0_slices_ContainsFunc_impl_Place_impl_Place_k M a0) ≥ 0)))) none)) (by kernel_rfl)
    ((pushL (fun _ => rfl)) h)
theorem ok_slices_ContainsFunc_impl_Place_impl_Place_k : OkFn Tryd.prog 78 (S_slices_ContainsFunc_impl_Place_impl_Place_k R) :=
  okFn_of (good_cons ok_impl_isPacked (good_cons ok_impl_areAll_impl_Place_1 (good_cons ok_slices_IndexFunc_impl_Place_impl_Place_k good_nil))) follows Tryd.func78 rfl (by decide) (by decide) lam_nil (m := 2) (fun _ => rfl) (by decide) (fun _ _ h => nomatch h) (fun _ _ h => nomatch h) (fun x hx => ⟨40, e_slices_ContainsFunc_impl_Place_impl_Place_k R x.1 hx⟩)

set_option maxRecDepth 100000 in
theorem e_impl_areAll_impl_Place (M : FOps) (a0 : (List (Nat × Nat))) (h : r_impl_areAll_impl_Place M a0 = true) : cwp M Tryd.prog (envOf [(58, S_impl_isPacked M), (78, S_slices_ContainsFunc_impl_Place_impl_Place_k M), (79, S_impl_areAll_impl_Place_1 M)]) (lamOf []) 40 (Tryd.f57.body.getD .skip) 0 (retK Tryd.prog Tryd.f57.results.toList (.cons (.one .bool) .nil) 0) (initSt (.cons (.one (.ls (.pair (.fl .f32) (.fl .f32)))) (.cons (.fn 58 .nil) .nil)) (a0, ((), ()))) = some (F_impl_areAll_impl_Place (p_impl_areAll_impl_Place M a0)) := 
  Eq.trans (b := (brT (r_slices_ContainsFunc_impl_Place_impl_Place_k M a0) (some (F_impl_areAll_impl_Place (!p_slices_ContainsFunc_impl_Place_impl_Place_k M a0))) none)) (by kernel_rfl)
    ((pushL (fun _ => rfl)) h)
theorem ok_impl_areAll_impl_Place : OkFn Tryd.prog 57 (S_impl_areAll_impl_Place R) :=
  okFn_of (good_cons ok_impl_isPacked (good_cons ok_slices_ContainsFunc_impl_Place_impl_Place_k (good_cons ok_impl_areAll_impl_Place_1 good_nil))) follows Tryd.func57 rfl (by decide) (by decide) lam_nil (m := 2) (fun _ => rfl) (by decide) (fun _ _ h => nomatch h) (fun _ _ h => nomatch h) (fun x hx => ⟨40, e_impl_areAll_impl_Place R x.1 hx⟩)

set_option maxRecDepth 100000 in
theorem e_impl_ArePacked (M : FOps) (a0 : (List (Nat × Nat))) (h : r_impl_ArePacked M a0 = true) : cwp M Tryd.prog (envOf [(56, S_impl_ArePlaces M), (57, S_impl_areAll_impl_Place M), (58, S_impl_isPacked M)]) (lamOf []) 40 (Tryd.f30.body.getD .skip) 0 (retK Tryd.prog Tryd.f30.results.toList (.cons (.one .bool) .nil) 0) (initSt (.cons (.one (.ls (.pair (.fl .f32) (.fl .f32)))) .nil) (a0, ())) = some (F_impl_ArePacked (p_impl_ArePacked M a0)) := 
  Eq.trans (b := (brT (decide (a0.length < 4611686018427387904)) (brT ((a0.all fun x => p_impl_ValidPlace M x.fst x.snd) && (decide (1 ≤ a0.length) && decide (a0.length ≤ 64))) (brT (r_impl_areAll_impl_Place M a0) (some (F_impl_ArePacked (p_impl_areAll_impl_Place M a0))) none) (some (F_impl_ArePacked (false)))) none)) (by kernel_rfl)
    ((pushL (pushR (pushL (fun _ => rfl)) (fun _ => rfl))) h)
theorem ok_impl_ArePacked : OkFn Tryd.prog 30 (S_impl_ArePacked R) :=
  okFn_of (good_cons ok_impl_ArePlaces (good_cons ok_impl_areAll_impl_Place (good_cons ok_impl_isPacked good_nil))) follows Tryd.func30 rfl (by decide) (by decide) lam_nil (m := 1) (fun _ => rfl) (by decide) (fun _ _ h => nomatch h) (fun _ _ h => nomatch h) (fun x hx => ⟨40, e_impl_ArePacked R x.1 hx⟩)

set_option maxRecDepth 100000 in
theorem e_impl_ValidTrack (M : FOps) (a0_0 : ByteArray) (a0_1 : (List (Nat × Nat))) (h : r_impl_ValidTrack M a0_0 a0_1 = true) : cwp M Tryd.prog (envOf [(29, S_impl_IsName M), (30, S_impl_ArePacked M)]) (lamOf []) 40 (Tryd.f9.body.getD .skip) 0 (retK Tryd.prog Tryd.f9.results.toList (.cons (.one .bool) .nil) 0) (initSt (.cons (.agg (.pair .str (.ls (.pair (.fl .f32) (.fl .f32))))) .nil) ((a0_0, a0_1), ())) = some (F_impl_ValidTrack (p_impl_ValidTrack M a0_0 a0_1)) := 
  Eq.trans (b := (brT (r_impl_IsName M a0_0) (brT (p_impl_IsName M a0_0) (brT (r_impl_ArePacked M a0_1) (some (F_impl_ValidTrack (p_impl_ArePacked M a0_1))) none) (some (F_impl_ValidTrack (false)))) none)) (by kernel_rfl)
    ((pushL (pushR (pushL (fun _ => rfl)) (fun _ => rfl))) h)
theorem ok_impl_ValidTrack : OkFn Tryd.prog 9 (S_impl_ValidTrack R) :=
  okFn_of (good_cons ok_impl_IsName (good_cons ok_impl_ArePacked good_nil)) follows Tryd.func9 rfl (by decide) (by decide) lam_nil (m := 1) (fun _ => rfl) (by decide) (fun _ _ h => nomatch h) (fun _ _ h => nomatch h) (fun x hx => ⟨40, e_impl_ValidTrack R x.1.1 x.1.2 hx⟩)

end Go.Proofs.YtgfplcpjnlignaaDoor
