/- Printed by gen2.py. -/
import Derived.Test.YtggaemodkekeeaaWnb
import Derived.Test.YtggaemodkekeeaaZna

set_option linter.unusedVariables false
set_option linter.unusedSimpArgs false

-- GENERATED BELOW (gen.py)
namespace Go.Proofs.Ytggaemodkekeeaa
open Go Go.Cv Go.Dv
set_option maxRecDepth 100000 in
theorem e_impl_ValidNet_1 (M : FOps) (a0_0 : Int) (a0_1 : Int) (a0_2 : Int) (a1_0 : Int) : cwp M Try.prog (envOf [(35, S_impl_within M)]) (lamOf []) 40 (Try.f55.body.getD .skip) 0 (retK Try.prog Try.f55.results.toList (.cons (.one .bool) .nil) 0) (initSt (.cons (.agg (.pair (.int .i64) (.pair (.int .i64) (.int .i64)))) (.cons (.ptr (.int .i64)) .nil)) ((a0_0, (a0_1, a0_2)), (a1_0, ()))) = some (F_impl_ValidNet_1 (p_impl_ValidNet_1 M a0_0 a0_1 a0_2 a1_0)) := 
  Eq.trans (b := (brT (p_impl_within M a0_0 0 a1_0) (brT (p_impl_within M a0_1 0 a1_0) (brT (a0_0 != a0_1) (some (F_impl_ValidNet_1 (p_impl_within M a0_2 1 1000000))) (some (F_impl_ValidNet_1 (false)))) (some (F_impl_ValidNet_1 (false)))) (some (F_impl_ValidNet_1 (false))))) (by kernel_rfl)
    ((push2 (push2 (push2 rfl rfl) rfl) rfl))
theorem ok_impl_ValidNet_1 : OkFn Try.prog 55 (S_impl_ValidNet_1 R) :=
  okFn_of (good_cons ok_impl_within good_nil) follows Try.func55 rfl (by decide) (by decide) lam_nil (m := 2) (fun _ => rfl) (by decide) (fun _ _ h => nomatch h) (fun _ _ h => nomatch h) (fun x _ => ⟨40, e_impl_ValidNet_1 R x.1.1 x.1.2.1 x.1.2.2 x.2.1⟩)

set_option maxRecDepth 100000 in
theorem e_impl_areAll_impl_Road_1 (M : FOps) (a0_0 : Int) (a0_1 : Int) (a0_2 : Int) (a1 : Int) : cwp M Try.prog (envOf [(55, S_impl_ValidNet_1 M)]) (lamOf []) 40 (Try.f73.body.getD .skip) 0 (retK Try.prog Try.f73.results.toList (.cons (.one .bool) .nil) 0) (initSt (.cons (.agg (.pair (.int .i64) (.pair (.int .i64) (.int .i64)))) (.cons (.pq 55 (.cons (.ptr (.int .i64)) .nil)) .nil)) ((a0_0, (a0_1, a0_2)), ((a1, ()), ()))) = some (F_impl_areAll_impl_Road_1 (p_impl_areAll_impl_Road_1 M a0_0 a0_1 a0_2 a1)) := by kernel_rfl
theorem ok_impl_areAll_impl_Road_1 : OkFn Try.prog 73 (S_impl_areAll_impl_Road_1 R) :=
  okFn_of (good_cons ok_impl_ValidNet_1 good_nil) follows Try.func73 rfl (by decide) (by decide) lam_nil (m := 2) (fun _ => rfl) (by decide) (fun _ _ h => nomatch h) (fun _ _ h => nomatch h) (fun x _ => ⟨40, e_impl_areAll_impl_Road_1 R x.1.1 x.1.2.1 x.1.2.2 x.2.1.1⟩)

set_option maxRecDepth 100000 in
theorem hs_slices_IndexFunc_impl_Road_impl_Road_k_0 (M : FOps) (v0 : (List (Int × (Int × Int)))) (v1 : Int) (v2 : Int) (v3 : Int) (v4 : Int) : cwp M Try.prog (envOf [(55, S_impl_ValidNet_1 M), (73, S_impl_areAll_impl_Road_1 M)]) (lamOf []) 40 ((loopsOf (Try.f91.body.getD .skip)).getD 0 .skip) 1 (stepK (.cons (.tv 0 true (.ls (.pair (.int .i64) (.pair (.int .i64) (.int .i64))))) (.cons (.tg 1 73 [(.q 55 (.int .i64))]) (.cons (.tv 7 false (.int .i64)) (.cons (.tv 8 false (.int .i64)) (.cons (.tv 4 false (.int .i64)) .nil))))) [(.ret, (.cons (.tv 4 false (.int .i64)) .nil)), ((.exit 0), (.cons (.tv 4 false (.int .i64)) .nil))]) (canon (.cons (.tv 0 true (.ls (.pair (.int .i64) (.pair (.int .i64) (.int .i64))))) (.cons (.tg 1 73 [(.q 55 (.int .i64))]) (.cons (.tv 7 false (.int .i64)) (.cons (.tv 8 false (.int .i64)) (.cons (.tv 4 false (.int .i64)) .nil))))) 0 0 (v0, ((v1, ()), (v2, (v3, (v4, ())))))) = st_slices_IndexFunc_impl_Road_impl_Road_k_0 M v0 v1 v2 v3 v4 := by
  unfold st_slices_IndexFunc_impl_Road_impl_Road_k_0
  kernel_rfl
set_option maxRecDepth 100000 in
theorem lk_slices_IndexFunc_impl_Road_impl_Road_k_0 : LOk Try.prog Try.f91.ntmps ((loopsOf (Try.f91.body.getD .skip)).getD 0 .skip) (L_slices_IndexFunc_impl_Road_impl_Road_k_0 R) :=
  lok (F := 40) (Λ := lamOf []) (b := 1) (good_cons ok_impl_ValidNet_1 (good_cons ok_impl_areAll_impl_Road_1 good_nil)) follows (by kernel_rfl) (fun _ _ _ _ h => nomatch h) (by decide) (by decide) (by decide) (fun x => hs_slices_IndexFunc_impl_Road_impl_Road_k_0 R x.1 x.2.1.1 x.2.2.1 x.2.2.2.1 x.2.2.2.2.1)
set_option maxRecDepth 100000 in
theorem e_slices_IndexFunc_impl_Road_impl_Road_k (M : FOps) (a0 : (List (Int × (Int × Int)))) (a1 : Int) (h : r_slices_IndexFunc_impl_Road_impl_Road_k M a0 a1 = true) : cwp M Try.prog (envOf [(55, S_impl_ValidNet_1 M), (73, S_impl_areAll_impl_Road_1 M)]) (lamOf [(0, L_slices_IndexFunc_impl_Road_impl_Road_k_0 M)]) 40 (Try.f91.body.getD .skip) 0 (retK Try.prog Try.f91.results.toList (.cons (.one (.int .i64)) .nil) 0) (initSt (.cons (.one (.ls (.pair (.int .i64) (.pair (.int .i64) (.int .i64))))) (.cons (.fn 73 (.cons (.pq 55 (.cons (.ptr (.int .i64)) .nil)) .nil)) .nil)) (a0, (((a1, ()), ()), ()))) = some (F_slices_IndexFunc_impl_Road_impl_Road_k (p_slices_IndexFunc_impl_Road_impl_Road_k M a0 a1)) := 
  Eq.trans (b := (brT ((c0_slices_IndexFunc_impl_Road_impl_Road_k M a0 a1).isSome) (brT (isL ((c0_slices_IndexFunc_impl_Road_impl_Road_k M a0 a1).getD (Sum.inl (0, ())))) (some (F_slices_IndexFunc_impl_Road_impl_Road_k ((getL (0, ()) ((c0_slices_IndexFunc_impl_Road_impl_Road_k M a0 a1).getD (Sum.inl (0, ())))).1))) (some (F_slices_IndexFunc_impl_Road_impl_Road_k (Int.negSucc 0)))) none)) (by kernel_rfl)
    ((pushL (fun _ => (push2 rfl rfl))) h)
theorem ok_slices_IndexFunc_impl_Road_impl_Road_k : OkFn Try.prog 91 (S_slices_IndexFunc_impl_Road_impl_Road_k R) :=
  okFn_of (good_cons ok_impl_ValidNet_1 (good_cons ok_impl_areAll_impl_Road_1 good_nil)) follows Try.func91 rfl (by decide) (by decide) (lam_cons (i := 0) (cc := (loopsOf (Try.f91.body.getD .skip)).getD 0 .skip) (by kernel_rfl) lk_slices_IndexFunc_impl_Road_impl_Road_k_0 lam_nil) (m := 2) (fun _ => rfl) (by decide) (fun _ _ h => nomatch h) (fun _ _ h => nomatch h) (fun x hx => ⟨40, e_slices_IndexFunc_impl_Road_impl_Road_k R x.1 x.2.1.1.1 hx⟩)

set_option maxRecDepth 100000 in
theorem e_slices_ContainsFunc_impl_Road_impl_Road_k (M : FOps) (a0 : (List (Int × (Int × Int)))) (a1 : Int) (h : r_slices_ContainsFunc_impl_Road_impl_Road_k M a0 a1 = true) : cwp M Try.prog (envOf [(55, S_impl_ValidNet_1 M), (73, S_impl_areAll_impl_Road_1 M), (91, S_slices_IndexFunc_impl_Road_impl_Road_k M)]) (lamOf []) 40 (Try.f72.body.getD .skip) 0 (retK Try.prog Try.f72.results.toList (.cons (.one .bool) .nil) 0) (initSt (.cons (.one (.ls (.pair (.int .i64) (.pair (.int .i64) (.int .i64))))) (.cons (.fn 73 (.cons (.pq 55 (.cons (.ptr (.int .i64)) .nil)) .nil)) .nil)) (a0, (((a1, ()), ()), ()))) = some (F_slices_ContainsFunc_impl_Road_impl_Road_k (p_slices_ContainsFunc_impl_Road_impl_Road_k M a0 a1)) := 
  Eq.trans (b := (brT (r_slices_IndexFunc_impl_Road_impl_Road_k M a0 a1) (some (F_slices_ContainsFunc_impl_Road_impl_Road_k (decide ((c0_slices_ContainsFunc_impl_Road_impl_Road_k M a0 a1) ≥ 0)))) none)) (by kernel_rfl)
    ((pushL (fun _ => rfl)) h)
theorem ok_slices_ContainsFunc_impl_Road_impl_Road_k : OkFn Try.prog 72 (S_slices_ContainsFunc_impl_Road_impl_Road_k R) :=
  okFn_of (good_cons ok_impl_ValidNet_1 (good_cons ok_impl_areAll_impl_Road_1 (good_cons ok_slices_IndexFunc_impl_Road_impl_Road_k good_nil))) follows Try.func72 rfl (by decide) (by decide) lam_nil (m := 2) (fun _ => rfl) (by decide) (fun _ _ h => nomatch h) (fun _ _ h => nomatch h) (fun x hx => ⟨40, e_slices_ContainsFunc_impl_Road_impl_Road_k R x.1 x.2.1.1.1 hx⟩)

set_option maxRecDepth 100000 in
theorem e_impl_areAll_impl_Road (M : FOps) (a0 : (List (Int × (Int × Int)))) (a1 : Int) (h : r_impl_areAll_impl_Road M a0 a1 = true) : cwp M Try.prog (envOf [(55, S_impl_ValidNet_1 M), (72, S_slices_ContainsFunc_impl_Road_impl_Road_k M), (73, S_impl_areAll_impl_Road_1 M)]) (lamOf []) 40 (Try.f54.body.getD .skip) 0 (retK Try.prog Try.f54.results.toList (.cons (.one .bool) .nil) 0) (initSt (.cons (.one (.ls (.pair (.int .i64) (.pair (.int .i64) (.int .i64))))) (.cons (.fn 55 (.cons (.ptr (.int .i64)) .nil)) .nil)) (a0, ((a1, ()), ()))) = some (F_impl_areAll_impl_Road (p_impl_areAll_impl_Road M a0 a1)) := 
  Eq.trans (b := (brT (r_slices_ContainsFunc_impl_Road_impl_Road_k M a0 a1) (some (F_impl_areAll_impl_Road (!p_slices_ContainsFunc_impl_Road_impl_Road_k M a0 a1))) none)) (by kernel_rfl)
    ((pushL (fun _ => rfl)) h)
theorem ok_impl_areAll_impl_Road : OkFn Try.prog 54 (S_impl_areAll_impl_Road R) :=
  okFn_of (good_cons ok_impl_ValidNet_1 (good_cons ok_slices_ContainsFunc_impl_Road_impl_Road_k (good_cons ok_impl_areAll_impl_Road_1 good_nil))) follows Try.func54 rfl (by decide) (by decide) lam_nil (m := 2) (fun _ => rfl) (by decide) (fun _ _ h => nomatch h) (fun _ _ h => nomatch h) (fun x hx => ⟨40, e_impl_areAll_impl_Road R x.1 x.2.1.1 hx⟩)

set_option maxRecDepth 100000 in
theorem e_impl_ValidNet (M : FOps) (a0_0 : (List (Nat × Nat))) (a0_1 : (List (Int × (Int × Int)))) (h : r_impl_ValidNet M a0_0 a0_1 = true) : cwp M Try.prog (envOf [(34, S_impl_ArePlaces M), (53, S_impl_length_impl_Place M), (54, S_impl_areAll_impl_Road M), (55, S_impl_ValidNet_1 M)]) (lamOf []) 40 (Try.f33.body.getD .skip) 0 (retK Try.prog Try.f33.results.toList (.cons (.one .bool) .nil) 0) (initSt (.cons (.agg (.pair (.ls (.pair (.fl .f32) (.fl .f32))) (.ls (.pair (.int .i64) (.pair (.int .i64) (.int .i64)))))) .nil) ((a0_0, a0_1), ())) = some (F_impl_ValidNet (p_impl_ValidNet M a0_0 a0_1)) := 
  Eq.trans (b := (brT (decide (a0_0.length < 4611686018427387904)) (brT ((a0_0.all fun x => p_impl_ValidPlace M x.1 x.2) && (decide (1 ≤ a0_0.length) && decide (a0_0.length ≤ 64))) (brT (decide ((↑a0_1.length : Int) ≤ 64)) (brT (r_impl_areAll_impl_Road M a0_1 (IntKind.i64.wrap (p_impl_length_impl_Place M a0_0 - 1))) (some (F_impl_ValidNet (p_impl_areAll_impl_Road M a0_1 (IntKind.i64.wrap (p_impl_length_impl_Place M a0_0 - 1))))) none) (some (F_impl_ValidNet (false)))) (some (F_impl_ValidNet (false)))) none)) (by kernel_rfl)
    ((pushL (pushR (pushR (pushL (fun _ => rfl)) (fun _ => rfl)) (fun _ => rfl))) h)
theorem ok_impl_ValidNet : OkFn Try.prog 33 (S_impl_ValidNet R) :=
  okFn_of (good_cons ok_impl_ArePlaces (good_cons ok_impl_length_impl_Place (good_cons ok_impl_areAll_impl_Road (good_cons ok_impl_ValidNet_1 good_nil)))) follows Try.func33 rfl (by decide) (by decide) lam_nil (m := 1) (fun _ => rfl) (by decide) (fun _ _ h => nomatch h) (fun _ _ h => nomatch h) (fun x hx => ⟨40, e_impl_ValidNet R x.1.1 x.1.2 hx⟩)

set_option maxRecDepth 100000 in
theorem e_impl_missOf (M : FOps) (a0_0 : Nat) (a0_1 : Nat) (a1_0 : Nat) (a1_1 : Nat) (h : r_impl_missOf M a0_0 a0_1 a1_0 a1_1 = true) : cwp M Try.prog (envOf [(58, S_impl_floor M), (59, S_impl_apart M)]) (lamOf []) 40 (Try.f38.body.getD .skip) 0 (retK Try.prog Try.f38.results.toList (.cons (.one (.int .i64)) .nil) 0) (initSt (.cons (.agg (.pair (.fl .f32) (.fl .f32))) (.cons (.agg (.pair (.fl .f32) (.fl .f32))) .nil)) ((a0_0, a0_1), ((a1_0, a1_1), ()))) = some (F_impl_missOf (p_impl_missOf M a0_0 a0_1 a1_0 a1_1)) := 
  Eq.trans (b := (brT (M.toiOk FloatKind.f32 (c0_impl_missOf M a0_0 a0_1 a1_0 a1_1) IntKind.i64) (some (F_impl_missOf (M.toi FloatKind.f32 (c0_impl_missOf M a0_0 a0_1 a1_0 a1_1) IntKind.i64))) none)) (by kernel_rfl)
    ((pushL (fun _ => rfl)) h)
theorem ok_impl_missOf : OkFn Try.prog 38 (S_impl_missOf R) :=
  okFn_of (good_cons ok_impl_floor (good_cons ok_impl_apart good_nil)) follows Try.func38 rfl (by decide) (by decide) lam_nil (m := 2) (fun _ => rfl) (by decide) (fun _ _ h => nomatch h) (fun _ _ h => nomatch h) (fun x hx => ⟨40, e_impl_missOf R x.1.1 x.1.2 x.2.1.1 x.2.1.2 hx⟩)

set_option maxRecDepth 100000 in
theorem e_impl_MatchTrack_1 (M : FOps) (a0_0 : Int) (a0_1 : Int) (a0_2 : Int) : cwp M Try.prog (envOf []) (lamOf []) 40 (Try.f37.body.getD .skip) 0 (retK Try.prog Try.f37.results.toList (.cons (.one (.int .i64)) .nil) 0) (initSt (.cons (.agg (.pair (.int .i64) (.pair (.int .i64) (.int .i64)))) .nil) ((a0_0, (a0_1, a0_2)), ())) = some (F_impl_MatchTrack_1 (p_impl_MatchTrack_1 M a0_0 a0_1 a0_2)) := by kernel_rfl
theorem ok_impl_MatchTrack_1 : OkFn Try.prog 37 (S_impl_MatchTrack_1 R) :=
  okFn_of good_nil follows Try.func37 rfl (by decide) (by decide) lam_nil (m := 1) (fun _ => rfl) (by decide) (fun _ _ h => nomatch h) (fun _ _ h => nomatch h) (fun x _ => ⟨40, e_impl_MatchTrack_1 R x.1.1 x.1.2.1 x.1.2.2⟩)

set_option maxRecDepth 100000 in
theorem hs_spec_l07Net_0 (M : FOps) (v0 : (List (Nat × Nat))) (v1 : (List (Int × (Int × Int)))) (v2 : Int) (v3 : Int) (v4 : Int) (v5 : Bool) : cwp M Try.prog (envOf [(27, S_spec_l02Are M), (28, S_spec_l00In M)]) (lamOf []) 40 ((loopsOf (Try.f26.body.getD .skip)).getD 0 .skip) 1 (stepK (.cons (.ti 0 (.pair (.ls (.pair (.fl .f32) (.fl .f32))) (.ls (.pair (.int .i64) (.pair (.int .i64) (.int .i64)))))) (.cons (.tv 3 false (.int .i64)) (.cons (.tv 30 false (.int .i64)) (.cons (.tv 31 false (.int .i64)) (.cons (.tv 2 false .bool) .nil))))) [(.ret, (.cons (.tv 2 false .bool) .nil)), ((.exit 0), (.cons (.tv 2 false .bool) .nil))]) (canon (.cons (.ti 0 (.pair (.ls (.pair (.fl .f32) (.fl .f32))) (.ls (.pair (.int .i64) (.pair (.int .i64) (.int .i64)))))) (.cons (.tv 3 false (.int .i64)) (.cons (.tv 30 false (.int .i64)) (.cons (.tv 31 false (.int .i64)) (.cons (.tv 2 false .bool) .nil))))) 0 0 ((v0, v1), (v2, (v3, (v4, (v5, ())))))) = st_spec_l07Net_0 M v0 v1 v2 v3 v4 v5 := by
  unfold st_spec_l07Net_0
  kernel_rfl
set_option maxRecDepth 100000 in
theorem lk_spec_l07Net_0 : LOk Try.prog Try.f26.ntmps ((loopsOf (Try.f26.body.getD .skip)).getD 0 .skip) (L_spec_l07Net_0 R) :=
  lok (F := 40) (Λ := lamOf []) (b := 1) (good_cons ok_spec_l02Are (good_cons ok_spec_l00In good_nil)) follows (by kernel_rfl) (fun _ _ _ _ h => nomatch h) (by decide) (by decide) (by decide) (fun x => hs_spec_l07Net_0 R x.1.1 x.1.2 x.2.1 x.2.2.1 x.2.2.2.1 x.2.2.2.2.1)
set_option maxRecDepth 100000 in
theorem e_spec_l07Net (M : FOps) (a0_0 : (List (Nat × Nat))) (a0_1 : (List (Int × (Int × Int)))) (h : r_spec_l07Net M a0_0 a0_1 = true) : cwp M Try.prog (envOf [(27, S_spec_l02Are M), (28, S_spec_l00In M)]) (lamOf [(0, L_spec_l07Net_0 M)]) 40 (Try.f26.body.getD .skip) 0 (retK Try.prog Try.f26.results.toList (.cons (.one .bool) .nil) 0) (initSt (.cons (.ptr (.pair (.ls (.pair (.fl .f32) (.fl .f32))) (.ls (.pair (.int .i64) (.pair (.int .i64) (.int .i64)))))) .nil) ((a0_0, a0_1), ())) = some (F_spec_l07Net (p_spec_l07Net M a0_0 a0_1)) := 
  Eq.trans (b := (brT (decide (a0_0.length < 4611686018427387904)) (brT (!((a0_0.all fun x => p_impl_ValidPlace M x.1 x.2) && (decide (1 ≤ a0_0.length) && decide (a0_0.length ≤ 64)))) (some (F_spec_l07Net (false))) (brT (decide ((↑a0_1.length : Int) > 64)) (some (F_spec_l07Net (false))) (brT ((c0_spec_l07Net M a0_0 a0_1).isSome) (brT (isL ((c0_spec_l07Net M a0_0 a0_1).getD (Sum.inl (false, ())))) (some (F_spec_l07Net ((getL (false, ()) ((c0_spec_l07Net M a0_0 a0_1).getD (Sum.inl (false, ())))).1))) (some (F_spec_l07Net (true)))) none))) none)) (by kernel_rfl)
    ((pushL (pushR (fun _ => rfl) (pushR (fun _ => rfl) (pushL (fun _ => (push2 rfl rfl)))))) h)
theorem ok_spec_l07Net : OkFn Try.prog 26 (S_spec_l07Net R) :=
  okFn_of (good_cons ok_spec_l02Are (good_cons ok_spec_l00In good_nil)) follows Try.func26 rfl (by decide) (by decide) (lam_cons (i := 0) (cc := (loopsOf (Try.f26.body.getD .skip)).getD 0 .skip) (by kernel_rfl) lk_spec_l07Net_0 lam_nil) (m := 1) (fun _ => rfl) (by decide) (fun _ _ h => nomatch h) (fun _ _ h => nomatch h) (fun x hx => ⟨40, e_spec_l07Net R x.1.1 x.1.2 hx⟩)

set_option maxRecDepth 100000 in
theorem e_spec_l07Off (M : FOps) (a0_0 : Nat) (a0_1 : Nat) (a1_0 : Nat) (a1_1 : Nat) (h : r_spec_l07Off M a0_0 a0_1 a1_0 a1_1 = true) : cwp M Try.prog (envOf [(49, S_spec_l02Apart M), (51, S_math_Floor M)]) (lamOf []) 40 (Try.f30.body.getD .skip) 0 (retK Try.prog Try.f30.results.toList (.cons (.one (.int .i64)) .nil) 0) (initSt (.cons (.agg (.pair (.fl .f32) (.fl .f32))) (.cons (.agg (.pair (.fl .f32) (.fl .f32))) .nil)) ((a0_0, a0_1), ((a1_0, a1_1), ()))) = some (F_spec_l07Off (p_spec_l07Off M a0_0 a0_1 a1_0 a1_1)) := 
  Eq.trans (b := (brT (M.toiOk FloatKind.f64 (c0_spec_l07Off M a0_0 a0_1 a1_0 a1_1) IntKind.i64) (some (F_spec_l07Off (M.toi FloatKind.f64 (c0_spec_l07Off M a0_0 a0_1 a1_0 a1_1) IntKind.i64))) none)) (by kernel_rfl)
    ((pushL (fun _ => rfl)) h)
theorem ok_spec_l07Off : OkFn Try.prog 30 (S_spec_l07Off R) :=
  okFn_of (good_cons ok_spec_l02Apart (good_cons ok_math_Floor good_nil)) follows Try.func30 rfl (by decide) (by decide) lam_nil (m := 2) (fun _ => rfl) (by decide) (fun _ _ h => nomatch h) (fun _ _ h => nomatch h) (fun x hx => ⟨40, e_spec_l07Off R x.1.1 x.1.2 x.2.1.1 x.2.1.2 hx⟩)

end Go.Proofs.Ytggaemodkekeeaa
