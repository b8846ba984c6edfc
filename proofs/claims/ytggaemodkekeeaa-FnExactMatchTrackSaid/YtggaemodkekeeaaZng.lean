/- Printed by gen2.py. -/
import Derived.Test.YtggaemodkekeeaaWng
import Derived.Test.YtggaemodkekeeaaZnd
import Derived.Test.YtggaemodkekeeaaZnc

set_option linter.unusedVariables false
set_option linter.unusedSimpArgs false

-- GENERATED BELOW (gen.py)
namespace Go.Proofs.Ytggaemodkekeeaa
open Go Go.Cv Go.Dv
set_option maxRecDepth 100000 in
theorem hs_laws_markPlaceS_0 (M : FOps) (v0 : (List (Nat × Nat))) (v1 : Int) (v2 : Int) (v3 : Int) : cwp M Try.prog (envOf []) (lamOf []) 40 ((loopsOf (Try.f15.body.getD .skip)).getD 0 .skip) 1 (stepK (.cons (.to 0 0 (.pair (.fl .f32) (.fl .f32))) (.cons (.tv 1 false (.int .i64)) (.cons (.tv 5 false (.int .i64)) (.cons (.tv 4 false (.int .i64)) .nil)))) [((.exit 0), (.cons (.tv 1 false (.int .i64)) (.cons (.tv 4 false (.int .i64)) (.cons (.ar 0 (.pair (.fl .f32) (.fl .f32))) .nil))))]) (canon (.cons (.to 0 0 (.pair (.fl .f32) (.fl .f32))) (.cons (.tv 1 false (.int .i64)) (.cons (.tv 5 false (.int .i64)) (.cons (.tv 4 false (.int .i64)) .nil)))) 1 1 (v0, (v1, (v2, (v3, ()))))) = st_laws_markPlaceS_0 M v0 v1 v2 v3 := by
  unfold st_laws_markPlaceS_0
  kernel_rfl
set_option maxRecDepth 100000 in
theorem lk_laws_markPlaceS_0 : LOk Try.prog Try.f15.ntmps ((loopsOf (Try.f15.body.getD .skip)).getD 0 .skip) (L_laws_markPlaceS_0 R) :=
  lok (F := 40) (Λ := lamOf []) (b := 1) good_nil follows (by kernel_rfl) (fun _ _ _ _ h => nomatch h) (by decide) (by decide) (by decide) (fun x => hs_laws_markPlaceS_0 R x.1 x.2.1 x.2.2.1 x.2.2.2.1)
set_option maxRecDepth 100000 in
theorem e_laws_markPlaceS (M : FOps) (a0 : (List (Nat × Nat))) (a1 : Int) (h : r_laws_markPlaceS M a0 a1 = true) : cwp M Try.prog (envOf []) (lamOf [(0, L_laws_markPlaceS_0 M)]) 40 (Try.f15.body.getD .skip) 0 (retK Try.prog Try.f15.results.toList (.cons (.one (.int .i64)) .nil) 1) (initSt (.cons (.own (.pair (.fl .f32) (.fl .f32))) (.cons (.one (.int .i64)) .nil)) (a0, (a1, ()))) = some (F_laws_markPlaceS (p_laws_markPlaceS M a0 a1)) := 
  Eq.trans (b := (brT (a0.length.beq a0.length && true) (brT ((c0_laws_markPlaceS M a0 a1).isSome) (some (F_laws_markPlaceS ((((c0_laws_markPlaceS M a0 a1).getD (0, 0, [], ())).1, ((c0_laws_markPlaceS M a0 a1).getD (0, 0, [], ())).2.2.1)))) none) none)) (by kernel_rfl)
    ((pushL (pushL (fun _ => rfl))) h)
theorem ok_laws_markPlaceS : OkFn Try.prog 15 (S_laws_markPlaceS R) :=
  okFn_of good_nil follows Try.func15 rfl (by decide) (by decide) (lam_cons (i := 0) (cc := (loopsOf (Try.f15.body.getD .skip)).getD 0 .skip) (by kernel_rfl) lk_laws_markPlaceS_0 lam_nil) (m := 2) (fun _ => rfl) (by decide) (fun _ c h => by simp [F_laws_markPlaceS] at h; rcases h with rfl <;> exact ⟨_, _, rfl⟩) (fun _ _ h => nomatch h) (fun x hx => ⟨40, e_laws_markPlaceS R x.1 x.2.1 hx⟩)

set_option maxRecDepth 100000 in
theorem e_laws_szRoadS (M : FOps) (a0 : (List (Int × (Int × Int)))) (a1 : Int) : cwp M Try.prog (envOf []) (lamOf []) 40 (Try.f25.body.getD .skip) 0 (retK Try.prog Try.f25.results.toList (.cons (.one (.int .i64)) .nil) 0) (initSt (.cons (.one (.ls (.pair (.int .i64) (.pair (.int .i64) (.int .i64))))) (.cons (.one (.int .i64)) .nil)) (a0, (a1, ()))) = some (F_laws_szRoadS (p_laws_szRoadS M a0 a1)) := 
  Eq.trans (b := (brT (decide (IntKind.i64.wrap (a1 - (↑a0.length : Int)) < 0)) (some (F_laws_szRoadS (Int.negSucc 0))) (some (F_laws_szRoadS (IntKind.i64.wrap (a1 - (↑a0.length : Int))))))) (by kernel_rfl)
    ((push2 rfl rfl))
theorem ok_laws_szRoadS : OkFn Try.prog 25 (S_laws_szRoadS R) :=
  okFn_of good_nil follows Try.func25 rfl (by decide) (by decide) lam_nil (m := 2) (fun _ => rfl) (by decide) (fun _ _ h => nomatch h) (fun _ _ h => nomatch h) (fun x _ => ⟨40, e_laws_szRoadS R x.1 x.2.1⟩)

set_option maxRecDepth 100000 in
theorem e_laws_szNet (M : FOps) (a0_0 : (List (Nat × Nat))) (a0_1 : (List (Int × (Int × Int)))) (a1 : Int) : cwp M Try.prog (envOf [(6, S_laws_szPlaceS M), (25, S_laws_szRoadS M)]) (lamOf []) 40 (Try.f5.body.getD .skip) 0 (retK Try.prog Try.f5.results.toList (.cons (.one (.int .i64)) .nil) 0) (initSt (.cons (.agg (.pair (.ls (.pair (.fl .f32) (.fl .f32))) (.ls (.pair (.int .i64) (.pair (.int .i64) (.int .i64)))))) (.cons (.one (.int .i64)) .nil)) ((a0_0, a0_1), (a1, ()))) = some (F_laws_szNet (p_laws_szNet M a0_0 a0_1 a1)) := 
  Eq.trans (b := (brT (decide ((c0_laws_szNet M a0_0 a0_1 a1) < 0)) (some (F_laws_szNet (Int.negSucc 0))) (brT (decide ((c1_laws_szNet M a0_0 a0_1 a1) < 0)) (some (F_laws_szNet (Int.negSucc 0))) (some (F_laws_szNet ((c1_laws_szNet M a0_0 a0_1 a1))))))) (by kernel_rfl)
    ((push2 rfl (push2 rfl rfl)))
theorem ok_laws_szNet : OkFn Try.prog 5 (S_laws_szNet R) :=
  okFn_of (good_cons ok_laws_szPlaceS (good_cons ok_laws_szRoadS good_nil)) follows Try.func5 rfl (by decide) (by decide) lam_nil (m := 2) (fun _ => rfl) (by decide) (fun _ _ h => nomatch h) (fun _ _ h => nomatch h) (fun x _ => ⟨40, e_laws_szNet R x.1.1 x.1.2 x.2.1⟩)

set_option maxRecDepth 100000 in
theorem e_laws_toRoad (M : FOps) (a0_0 : Int) (a0_1 : Int) (a0_2 : Int) : cwp M Try.prog (envOf []) (lamOf []) 40 (Try.f52.body.getD .skip) 0 (retK Try.prog Try.f52.results.toList (.cons (.agg (.pair (.int .i64) (.pair (.int .i64) (.int .i64)))) .nil) 0) (initSt (.cons (.agg (.pair (.int .i64) (.pair (.int .i64) (.int .i64)))) .nil) ((a0_0, (a0_1, a0_2)), ())) = some (F_laws_toRoad (p_laws_toRoad M a0_0 a0_1 a0_2)) := by kernel_rfl
theorem ok_laws_toRoad : OkFn Try.prog 52 (S_laws_toRoad R) :=
  okFn_of good_nil follows Try.func52 rfl (by decide) (by decide) lam_nil (m := 1) (fun _ => rfl) (by decide) (fun _ _ h => nomatch h) (fun _ _ h => nomatch h) (fun x _ => ⟨40, e_laws_toRoad R x.1.1 x.1.2.1 x.1.2.2⟩)

set_option maxRecDepth 100000 in
theorem hs_laws_toRoadS_0 (M : FOps) (v0 : (List (Int × (Int × Int)))) (v1 : (List (Int × (Int × Int)))) (v2 : Int) : cwp M Try.prog (envOf [(52, S_laws_toRoad M)]) (lamOf []) 40 ((loopsOf (Try.f31.body.getD .skip)).getD 0 .skip) 1 (stepK (.cons (.tv 0 true (.ls (.pair (.int .i64) (.pair (.int .i64) (.int .i64))))) (.cons (.to 3 0 (.pair (.int .i64) (.pair (.int .i64) (.int .i64)))) (.cons (.tv 4 false (.int .i64)) (.cons (.tn 2) .nil)))) [((.exit 0), (.cons (.to 3 0 (.pair (.int .i64) (.pair (.int .i64) (.int .i64)))) (.cons (.tn 2) .nil)))]) (canon (.cons (.tv 0 true (.ls (.pair (.int .i64) (.pair (.int .i64) (.int .i64))))) (.cons (.to 3 0 (.pair (.int .i64) (.pair (.int .i64) (.int .i64)))) (.cons (.tv 4 false (.int .i64)) (.cons (.tn 2) .nil)))) 1 0 (v0, (v1, (v2, ((), ()))))) = st_laws_toRoadS_0 M v0 v1 v2 := by
  unfold st_laws_toRoadS_0
  kernel_rfl
set_option maxRecDepth 100000 in
theorem lk_laws_toRoadS_0 : LOk Try.prog Try.f31.ntmps ((loopsOf (Try.f31.body.getD .skip)).getD 0 .skip) (L_laws_toRoadS_0 R) :=
  lok (F := 40) (Λ := lamOf []) (b := 1) (good_cons ok_laws_toRoad good_nil) follows (by kernel_rfl) (fun _ _ _ _ h => nomatch h) (by decide) (by decide) (by decide) (fun x => hs_laws_toRoadS_0 R x.1 x.2.1 x.2.2.1)
set_option maxRecDepth 100000 in
theorem e_laws_toRoadS (M : FOps) (a0 : (List (Int × (Int × Int)))) (h : r_laws_toRoadS M a0 = true) : cwp M Try.prog (envOf [(52, S_laws_toRoad M)]) (lamOf [(0, L_laws_toRoadS_0 M)]) 40 (Try.f31.body.getD .skip) 0 (retK Try.prog Try.f31.results.toList (.cons (.one (.ls (.pair (.int .i64) (.pair (.int .i64) (.int .i64))))) .nil) 0) (initSt (.cons (.one (.ls (.pair (.int .i64) (.pair (.int .i64) (.int .i64))))) .nil) (a0, ())) = some (F_laws_toRoadS (p_laws_toRoadS M a0)) := 
  Eq.trans (b := (brT (decide ((↑a0.length : Int) ≤ (↑a0.length : Int)) && decide ((↑a0.length : Int) ≤ Int.ofNat 1073741824)) (brT ((List.replicate (↑a0.length : Int).toNat ((0 : Int), (0 : Int), (0 : Int))).length.beq (List.replicate (↑a0.length : Int).toNat ((0 : Int), (0 : Int), (0 : Int))).length && true) (brT ((c0_laws_toRoadS M a0).isSome) (brT ((List.length ((c0_laws_toRoadS M a0).getD ([], (), ())).1).beq (List.length ((c0_laws_toRoadS M a0).getD ([], (), ())).1) && true) (some (F_laws_toRoadS (((c0_laws_toRoadS M a0).getD ([], (), ())).1))) none) none) none) none)) (by kernel_rfl)
    ((pushL (pushL (pushL (pushL (fun _ => rfl))))) h)
theorem ok_laws_toRoadS : OkFn Try.prog 31 (S_laws_toRoadS R) :=
  okFn_of (good_cons ok_laws_toRoad good_nil) follows Try.func31 rfl (by decide) (by decide) (lam_cons (i := 0) (cc := (loopsOf (Try.f31.body.getD .skip)).getD 0 .skip) (by kernel_rfl) lk_laws_toRoadS_0 lam_nil) (m := 1) (fun _ => rfl) (by decide) (fun _ _ h => nomatch h) (fun y c h => by simp [encR, encC] at h; first | (subst h; exact ⟨_, _, rfl⟩) | (rcases h with rfl | rfl <;> exact ⟨_, _, rfl⟩) | (rcases h with rfl | rfl | rfl <;> exact ⟨_, _, rfl⟩)) (fun x hx => ⟨40, e_laws_toRoadS R x.1 hx⟩)

set_option maxRecDepth 100000 in
theorem e_laws_toNet (M : FOps) (a0_0 : (List (Nat × Nat))) (a0_1 : (List (Int × (Int × Int)))) (h : r_laws_toNet M a0_0 a0_1 = true) : cwp M Try.prog (envOf [(9, S_laws_toPlaceS M), (31, S_laws_toRoadS M)]) (lamOf []) 40 (Try.f8.body.getD .skip) 0 (retK Try.prog Try.f8.results.toList (.cons (.agg (.pair (.ls (.pair (.fl .f32) (.fl .f32))) (.ls (.pair (.int .i64) (.pair (.int .i64) (.int .i64)))))) .nil) 0) (initSt (.cons (.agg (.pair (.ls (.pair (.fl .f32) (.fl .f32))) (.ls (.pair (.int .i64) (.pair (.int .i64) (.int .i64)))))) .nil) ((a0_0, a0_1), ())) = some (F_laws_toNet (p_laws_toNet M a0_0 a0_1)) := 
  Eq.trans (b := (brT (decide (a0_0.length ≤ 1073741824)) (brT (r_laws_toRoadS M a0_1) (brT (a0_0.length.beq a0_0.length && (c0_laws_toNet M a0_0 a0_1).length.beq (c0_laws_toNet M a0_0 a0_1).length && true) (some (F_laws_toNet ((a0_0, (c0_laws_toNet M a0_0 a0_1))))) none) none) none)) (by kernel_rfl)
    ((pushL (pushL (pushL (fun _ => rfl)))) h)
theorem ok_laws_toNet : OkFn Try.prog 8 (S_laws_toNet R) :=
  okFn_of (good_cons ok_laws_toPlaceS (good_cons ok_laws_toRoadS good_nil)) follows Try.func8 rfl (by decide) (by decide) lam_nil (m := 1) (fun _ => rfl) (by decide) (fun _ _ h => nomatch h) (fun y c h => by simp [encR, encC] at h; first | (subst h; exact ⟨_, _, rfl⟩) | (rcases h with rfl | rfl <;> exact ⟨_, _, rfl⟩) | (rcases h with rfl | rfl | rfl <;> exact ⟨_, _, rfl⟩)) (fun x hx => ⟨40, e_laws_toNet R x.1.1 x.1.2 hx⟩)
theorem ok_laws_toNet_fz : OkFn Try.prog 8 (S_laws_toNet_fz R) := frz_okFn frz_mk ok_laws_toNet

set_option maxRecDepth 100000 in
theorem e_laws_eqRoad (M : FOps) (a0_0 : Int) (a0_1 : Int) (a0_2 : Int) (a1_0 : Int) (a1_1 : Int) (a1_2 : Int) : cwp M Try.prog (envOf []) (lamOf []) 40 (Try.f60.body.getD .skip) 0 (retK Try.prog Try.f60.results.toList (.cons (.one .bool) .nil) 0) (initSt (.cons (.agg (.pair (.int .i64) (.pair (.int .i64) (.int .i64)))) (.cons (.agg (.pair (.int .i64) (.pair (.int .i64) (.int .i64)))) .nil)) ((a0_0, (a0_1, a0_2)), ((a1_0, (a1_1, a1_2)), ()))) = some (F_laws_eqRoad (p_laws_eqRoad M a0_0 a0_1 a0_2 a1_0 a1_1 a1_2)) := 
  Eq.trans (b := (brT (a0_0 != a1_0) (some (F_laws_eqRoad (false))) (brT (a0_1 != a1_1) (some (F_laws_eqRoad (false))) (brT (a0_2 != a1_2) (some (F_laws_eqRoad (false))) (some (F_laws_eqRoad (true))))))) (by kernel_rfl)
    ((push2 rfl (push2 rfl (push2 rfl rfl))))
theorem ok_laws_eqRoad : OkFn Try.prog 60 (S_laws_eqRoad R) :=
  okFn_of good_nil follows Try.func60 rfl (by decide) (by decide) lam_nil (m := 2) (fun _ => rfl) (by decide) (fun _ _ h => nomatch h) (fun _ _ h => nomatch h) (fun x _ => ⟨40, e_laws_eqRoad R x.1.1 x.1.2.1 x.1.2.2 x.2.1.1 x.2.1.2.1 x.2.1.2.2⟩)

set_option maxRecDepth 100000 in
theorem hs_laws_eqRoadS_0 (M : FOps) (v0 : (List (Int × (Int × Int)))) (v1 : (List (Int × (Int × Int)))) (v2 : Int) (v3 : Bool) : cwp M Try.prog (envOf [(60, S_laws_eqRoad M)]) (lamOf []) 40 ((loopsOf (Try.f41.body.getD .skip)).getD 0 .skip) 1 (stepK (.cons (.tv 0 true (.ls (.pair (.int .i64) (.pair (.int .i64) (.int .i64))))) (.cons (.tv 1 true (.ls (.pair (.int .i64) (.pair (.int .i64) (.int .i64))))) (.cons (.tv 5 false (.int .i64)) (.cons (.tv 4 false .bool) .nil)))) [(.ret, (.cons (.tv 4 false .bool) .nil)), ((.exit 0), (.cons (.tv 4 false .bool) .nil))]) (canon (.cons (.tv 0 true (.ls (.pair (.int .i64) (.pair (.int .i64) (.int .i64))))) (.cons (.tv 1 true (.ls (.pair (.int .i64) (.pair (.int .i64) (.int .i64))))) (.cons (.tv 5 false (.int .i64)) (.cons (.tv 4 false .bool) .nil)))) 0 0 (v0, (v1, (v2, (v3, ()))))) = st_laws_eqRoadS_0 M v0 v1 v2 v3 := by
  unfold st_laws_eqRoadS_0
  kernel_rfl
set_option maxRecDepth 100000 in
theorem lk_laws_eqRoadS_0 : LOk Try.prog Try.f41.ntmps ((loopsOf (Try.f41.body.getD .skip)).getD 0 .skip) (L_laws_eqRoadS_0 R) :=
  lok (F := 40) (Λ := lamOf []) (b := 1) (good_cons ok_laws_eqRoad good_nil) follows (by kernel_rfl) (fun _ _ _ _ h => nomatch h) (by decide) (by decide) (by decide) (fun x => hs_laws_eqRoadS_0 R x.1 x.2.1 x.2.2.1 x.2.2.2.1)
set_option maxRecDepth 100000 in
theorem e_laws_eqRoadS (M : FOps) (a0 : (List (Int × (Int × Int)))) (a1 : (List (Int × (Int × Int)))) (h : r_laws_eqRoadS M a0 a1 = true) : cwp M Try.prog (envOf [(60, S_laws_eqRoad M)]) (lamOf [(0, L_laws_eqRoadS_0 M)]) 40 (Try.f41.body.getD .skip) 0 (retK Try.prog Try.f41.results.toList (.cons (.one .bool) .nil) 0) (initSt (.cons (.one (.ls (.pair (.int .i64) (.pair (.int .i64) (.int .i64))))) (.cons (.one (.ls (.pair (.int .i64) (.pair (.int .i64) (.int .i64))))) .nil)) (a0, (a1, ()))) = some (F_laws_eqRoadS (p_laws_eqRoadS M a0 a1)) := 
  Eq.trans (b := (brT ((↑a0.length : Int) != (↑a1.length : Int)) (some (F_laws_eqRoadS (false))) (brT ((c0_laws_eqRoadS M a0 a1).isSome) (brT (isL ((c0_laws_eqRoadS M a0 a1).getD (Sum.inl (false, ())))) (some (F_laws_eqRoadS ((getL (false, ()) ((c0_laws_eqRoadS M a0 a1).getD (Sum.inl (false, ())))).1))) (some (F_laws_eqRoadS (true)))) none))) (by kernel_rfl)
    ((pushR (fun _ => rfl) (pushL (fun _ => (push2 rfl rfl)))) h)
theorem ok_laws_eqRoadS : OkFn Try.prog 41 (S_laws_eqRoadS R) :=
  okFn_of (good_cons ok_laws_eqRoad good_nil) follows Try.func41 rfl (by decide) (by decide) (lam_cons (i := 0) (cc := (loopsOf (Try.f41.body.getD .skip)).getD 0 .skip) (by kernel_rfl) lk_laws_eqRoadS_0 lam_nil) (m := 2) (fun _ => rfl) (by decide) (fun _ _ h => nomatch h) (fun _ _ h => nomatch h) (fun x hx => ⟨40, e_laws_eqRoadS R x.1 x.2.1 hx⟩)

set_option maxRecDepth 100000 in
theorem e_laws_eqNet (M : FOps) (a0_0 : (List (Nat × Nat))) (a0_1 : (List (Int × (Int × Int)))) (a1_0 : (List (Nat × Nat))) (a1_1 : (List (Int × (Int × Int)))) (h : r_laws_eqNet M a0_0 a0_1 a1_0 a1_1 = true) : cwp M Try.prog (envOf [(13, S_laws_eqPlaceS M), (41, S_laws_eqRoadS M)]) (lamOf []) 40 (Try.f12.body.getD .skip) 0 (retK Try.prog Try.f12.results.toList (.cons (.one .bool) .nil) 0) (initSt (.cons (.agg (.pair (.ls (.pair (.fl .f32) (.fl .f32))) (.ls (.pair (.int .i64) (.pair (.int .i64) (.int .i64)))))) (.cons (.agg (.pair (.ls (.pair (.fl .f32) (.fl .f32))) (.ls (.pair (.int .i64) (.pair (.int .i64) (.int .i64)))))) .nil)) ((a0_0, a0_1), ((a1_0, a1_1), ()))) = some (F_laws_eqNet (p_laws_eqNet M a0_0 a0_1 a1_0 a1_1)) := 
  Eq.trans (b := (brT (decide (a0_0.length < 4611686018427387904)) (brT (!p_laws_eqPlaceS M a0_0 a1_0) (some (F_laws_eqNet (false))) (brT (r_laws_eqRoadS M a0_1 a1_1) (brT (!p_laws_eqRoadS M a0_1 a1_1) (some (F_laws_eqNet (false))) (some (F_laws_eqNet (true)))) none)) none)) (by kernel_rfl)
    ((pushL (pushR (fun _ => rfl) (pushL (fun _ => (push2 rfl rfl))))) h)
theorem ok_laws_eqNet : OkFn Try.prog 12 (S_laws_eqNet R) :=
  okFn_of (good_cons ok_laws_eqPlaceS (good_cons ok_laws_eqRoadS good_nil)) follows Try.func12 rfl (by decide) (by decide) lam_nil (m := 2) (fun _ => rfl) (by decide) (fun _ _ h => nomatch h) (fun _ _ h => nomatch h) (fun x hx => ⟨40, e_laws_eqNet R x.1.1 x.1.2 x.2.1.1 x.2.1.2 hx⟩)

set_option maxRecDepth 100000 in
theorem hs_laws_markRoadS_0 (M : FOps) (v0 : (List (Int × (Int × Int)))) (v1 : Int) (v2 : Int) (v3 : Int) : cwp M Try.prog (envOf []) (lamOf []) 40 ((loopsOf (Try.f43.body.getD .skip)).getD 0 .skip) 1 (stepK (.cons (.to 0 0 (.pair (.int .i64) (.pair (.int .i64) (.int .i64)))) (.cons (.tv 1 false (.int .i64)) (.cons (.tv 5 false (.int .i64)) (.cons (.tv 4 false (.int .i64)) .nil)))) [((.exit 0), (.cons (.tv 1 false (.int .i64)) (.cons (.tv 4 false (.int .i64)) (.cons (.ar 0 (.pair (.int .i64) (.pair (.int .i64) (.int .i64)))) .nil))))]) (canon (.cons (.to 0 0 (.pair (.int .i64) (.pair (.int .i64) (.int .i64)))) (.cons (.tv 1 false (.int .i64)) (.cons (.tv 5 false (.int .i64)) (.cons (.tv 4 false (.int .i64)) .nil)))) 1 1 (v0, (v1, (v2, (v3, ()))))) = st_laws_markRoadS_0 M v0 v1 v2 v3 := by
  unfold st_laws_markRoadS_0
  kernel_rfl
set_option maxRecDepth 100000 in
theorem lk_laws_markRoadS_0 : LOk Try.prog Try.f43.ntmps ((loopsOf (Try.f43.body.getD .skip)).getD 0 .skip) (L_laws_markRoadS_0 R) :=
  lok (F := 40) (Λ := lamOf []) (b := 1) good_nil follows (by kernel_rfl) (fun _ _ _ _ h => nomatch h) (by decide) (by decide) (by decide) (fun x => hs_laws_markRoadS_0 R x.1 x.2.1 x.2.2.1 x.2.2.2.1)
set_option maxRecDepth 100000 in
theorem e_laws_markRoadS (M : FOps) (a0 : (List (Int × (Int × Int)))) (a1 : Int) (h : r_laws_markRoadS M a0 a1 = true) : cwp M Try.prog (envOf []) (lamOf [(0, L_laws_markRoadS_0 M)]) 40 (Try.f43.body.getD .skip) 0 (retK Try.prog Try.f43.results.toList (.cons (.one (.int .i64)) .nil) 1) (initSt (.cons (.own (.pair (.int .i64) (.pair (.int .i64) (.int .i64)))) (.cons (.one (.int .i64)) .nil)) (a0, (a1, ()))) = some (F_laws_markRoadS (p_laws_markRoadS M a0 a1)) := 
  Eq.trans (b := (brT (a0.length.beq a0.length && true) (brT ((c0_laws_markRoadS M a0 a1).isSome) (some (F_laws_markRoadS ((((c0_laws_markRoadS M a0 a1).getD (0, 0, [], ())).1, ((c0_laws_markRoadS M a0 a1).getD (0, 0, [], ())).2.2.1)))) none) none)) (by kernel_rfl)
    ((pushL (pushL (fun _ => rfl))) h)
theorem ok_laws_markRoadS : OkFn Try.prog 43 (S_laws_markRoadS R) :=
  okFn_of good_nil follows Try.func43 rfl (by decide) (by decide) (lam_cons (i := 0) (cc := (loopsOf (Try.f43.body.getD .skip)).getD 0 .skip) (by kernel_rfl) lk_laws_markRoadS_0 lam_nil) (m := 2) (fun _ => rfl) (by decide) (fun _ c h => by simp [F_laws_markRoadS] at h; rcases h with rfl <;> exact ⟨_, _, rfl⟩) (fun _ _ h => nomatch h) (fun x hx => ⟨40, e_laws_markRoadS R x.1 x.2.1 hx⟩)

set_option maxRecDepth 100000 in
theorem e_laws_markNet (M : FOps) (a0_0 : (List (Nat × Nat))) (a0_1 : (List (Int × (Int × Int)))) (a1 : Int) (h : r_laws_markNet M a0_0 a0_1 a1 = true) : cwp M Try.prog (envOf [(15, S_laws_markPlaceS M), (43, S_laws_markRoadS M)]) (lamOf []) 40 (Try.f14.body.getD .skip) 0 (retK Try.prog Try.f14.results.toList (.cons (.one (.int .i64)) .nil) 2) (initSt (.cons (.ao2 (.pair (.fl .f32) (.fl .f32)) (.pair (.int .i64) (.pair (.int .i64) (.int .i64)))) (.cons (.one (.int .i64)) .nil)) ((a0_0, a0_1), (a1, ()))) = some (F_laws_markNet (p_laws_markNet M a0_0 a0_1 a1)) := 
  Eq.trans (b := (brT (a0_0.length.beq a0_0.length && true && r_laws_markPlaceS M a0_0 a1) (brT (a0_1.length.beq a0_1.length && true && r_laws_markRoadS M a0_1 (c0_laws_markNet M a0_0 a0_1 a1).1) (some (F_laws_markNet (((c1_laws_markNet M a0_0 a0_1 a1).1, (c0_laws_markNet M a0_0 a0_1 a1).2, (c1_laws_markNet M a0_0 a0_1 a1).2)))) none) none)) (by kernel_rfl)
    ((pushL (pushL (fun _ => rfl))) h)
theorem ok_laws_markNet : OkFn Try.prog 14 (S_laws_markNet R) :=
  okFn_of (good_cons ok_laws_markPlaceS (good_cons ok_laws_markRoadS good_nil)) follows Try.func14 rfl (by decide) (by decide) lam_nil (m := 2) (fun _ => rfl) (by decide) (fun _ c h => by simp [F_laws_markNet] at h; rcases h with rfl | rfl <;> exact ⟨_, _, rfl⟩) (fun _ _ h => nomatch h) (fun x hx => ⟨40, e_laws_markNet R x.1.1 x.1.2 x.2.1 hx⟩)

set_option maxRecDepth 100000 in
theorem hs_laws_markInt64S_0 (M : FOps) (v0 : (List Int)) (v1 : Int) (v2 : Int) (v3 : Int) : cwp M Try.prog (envOf []) (lamOf []) 40 ((loopsOf (Try.f16.body.getD .skip)).getD 0 .skip) 1 (stepK (.cons (.to 0 0 (.int .i64)) (.cons (.tv 1 false (.int .i64)) (.cons (.tv 5 false (.int .i64)) (.cons (.tv 4 false (.int .i64)) .nil)))) [((.exit 0), (.cons (.tv 1 false (.int .i64)) (.cons (.tv 4 false (.int .i64)) (.cons (.ar 0 (.int .i64)) .nil))))]) (canon (.cons (.to 0 0 (.int .i64)) (.cons (.tv 1 false (.int .i64)) (.cons (.tv 5 false (.int .i64)) (.cons (.tv 4 false (.int .i64)) .nil)))) 1 1 (v0, (v1, (v2, (v3, ()))))) = st_laws_markInt64S_0 M v0 v1 v2 v3 := by
  unfold st_laws_markInt64S_0
  kernel_rfl
set_option maxRecDepth 100000 in
theorem lk_laws_markInt64S_0 : LOk Try.prog Try.f16.ntmps ((loopsOf (Try.f16.body.getD .skip)).getD 0 .skip) (L_laws_markInt64S_0 R) :=
  lok (F := 40) (Λ := lamOf []) (b := 1) good_nil follows (by kernel_rfl) (fun _ _ _ _ h => nomatch h) (by decide) (by decide) (by decide) (fun x => hs_laws_markInt64S_0 R x.1 x.2.1 x.2.2.1 x.2.2.2.1)
set_option maxRecDepth 100000 in
theorem e_laws_markInt64S (M : FOps) (a0 : (List Int)) (a1 : Int) (h : r_laws_markInt64S M a0 a1 = true) : cwp M Try.prog (envOf []) (lamOf [(0, L_laws_markInt64S_0 M)]) 40 (Try.f16.body.getD .skip) 0 (retK Try.prog Try.f16.results.toList (.cons (.one (.int .i64)) .nil) 1) (initSt (.cons (.own (.int .i64)) (.cons (.one (.int .i64)) .nil)) (a0, (a1, ()))) = some (F_laws_markInt64S (p_laws_markInt64S M a0 a1)) := 
  Eq.trans (b := (brT (a0.length.beq a0.length && true) (brT ((c0_laws_markInt64S M a0 a1).isSome) (some (F_laws_markInt64S ((((c0_laws_markInt64S M a0 a1).getD (0, 0, [], ())).1, ((c0_laws_markInt64S M a0 a1).getD (0, 0, [], ())).2.2.1)))) none) none)) (by kernel_rfl)
    ((pushL (pushL (fun _ => rfl))) h)
theorem ok_laws_markInt64S : OkFn Try.prog 16 (S_laws_markInt64S R) :=
  okFn_of good_nil follows Try.func16 rfl (by decide) (by decide) (lam_cons (i := 0) (cc := (loopsOf (Try.f16.body.getD .skip)).getD 0 .skip) (by kernel_rfl) lk_laws_markInt64S_0 lam_nil) (m := 2) (fun _ => rfl) (by decide) (fun _ c h => by simp [F_laws_markInt64S] at h; rcases h with rfl <;> exact ⟨_, _, rfl⟩) (fun _ _ h => nomatch h) (fun x hx => ⟨40, e_laws_markInt64S R x.1 x.2.1 hx⟩)

set_option maxRecDepth 100000 in
theorem hs_laws_heldInt64S_0 (M : FOps) (v0 : (List Int)) (v1 : Int) (v2 : Int) (v3 : Int) : cwp M Try.prog (envOf []) (lamOf []) 40 ((loopsOf (Try.f17.body.getD .skip)).getD 0 .skip) 1 (stepK (.cons (.tv 0 true (.ls (.int .i64))) (.cons (.tv 1 false (.int .i64)) (.cons (.tv 5 false (.int .i64)) (.cons (.tv 4 false (.int .i64)) .nil)))) [(.ret, (.cons (.tv 4 false (.int .i64)) .nil)), ((.exit 0), (.cons (.tv 1 false (.int .i64)) (.cons (.tv 4 false (.int .i64)) .nil)))]) (canon (.cons (.tv 0 true (.ls (.int .i64))) (.cons (.tv 1 false (.int .i64)) (.cons (.tv 5 false (.int .i64)) (.cons (.tv 4 false (.int .i64)) .nil)))) 0 0 (v0, (v1, (v2, (v3, ()))))) = st_laws_heldInt64S_0 M v0 v1 v2 v3 := by
  unfold st_laws_heldInt64S_0
  kernel_rfl
set_option maxRecDepth 100000 in
theorem lk_laws_heldInt64S_0 : LOk Try.prog Try.f17.ntmps ((loopsOf (Try.f17.body.getD .skip)).getD 0 .skip) (L_laws_heldInt64S_0 R) :=
  lok (F := 40) (Λ := lamOf []) (b := 1) good_nil follows (by kernel_rfl) (fun _ _ _ _ h => nomatch h) (by decide) (by decide) (by decide) (fun x => hs_laws_heldInt64S_0 R x.1 x.2.1 x.2.2.1 x.2.2.2.1)
set_option maxRecDepth 100000 in
theorem e_laws_heldInt64S (M : FOps) (a0 : (List Int)) (a1 : Int) (h : r_laws_heldInt64S M a0 a1 = true) : cwp M Try.prog (envOf []) (lamOf [(0, L_laws_heldInt64S_0 M)]) 40 (Try.f17.body.getD .skip) 0 (retK Try.prog Try.f17.results.toList (.cons (.one (.int .i64)) .nil) 0) (initSt (.cons (.one (.ls (.int .i64))) (.cons (.one (.int .i64)) .nil)) (a0, (a1, ()))) = some (F_laws_heldInt64S (p_laws_heldInt64S M a0 a1)) := 
  Eq.trans (b := (brT ((c0_laws_heldInt64S M a0 a1).isSome) (brT (isL ((c0_laws_heldInt64S M a0 a1).getD (Sum.inl (0, ())))) (some (F_laws_heldInt64S ((getL (0, ()) ((c0_laws_heldInt64S M a0 a1).getD (Sum.inl (0, ())))).1))) (some (F_laws_heldInt64S ((getR (0, 0, ()) ((c0_laws_heldInt64S M a0 a1).getD (Sum.inl (0, ())))).1)))) none)) (by kernel_rfl)
    ((pushL (fun _ => (push2 rfl rfl))) h)
theorem ok_laws_heldInt64S : OkFn Try.prog 17 (S_laws_heldInt64S R) :=
  okFn_of good_nil follows Try.func17 rfl (by decide) (by decide) (lam_cons (i := 0) (cc := (loopsOf (Try.f17.body.getD .skip)).getD 0 .skip) (by kernel_rfl) lk_laws_heldInt64S_0 lam_nil) (m := 2) (fun _ => rfl) (by decide) (fun _ _ h => nomatch h) (fun _ _ h => nomatch h) (fun x hx => ⟨40, e_laws_heldInt64S R x.1 x.2.1 hx⟩)

set_option maxRecDepth 100000 in
theorem hs_laws_eqInt64S_0 (M : FOps) (v0 : (List Int)) (v1 : (List Int)) (v2 : Int) (v3 : Bool) : cwp M Try.prog (envOf []) (lamOf []) 40 ((loopsOf (Try.f11.body.getD .skip)).getD 0 .skip) 1 (stepK (.cons (.tv 0 true (.ls (.int .i64))) (.cons (.tv 1 true (.ls (.int .i64))) (.cons (.tv 5 false (.int .i64)) (.cons (.tv 4 false .bool) .nil)))) [(.ret, (.cons (.tv 4 false .bool) .nil)), ((.exit 0), (.cons (.tv 4 false .bool) .nil))]) (canon (.cons (.tv 0 true (.ls (.int .i64))) (.cons (.tv 1 true (.ls (.int .i64))) (.cons (.tv 5 false (.int .i64)) (.cons (.tv 4 false .bool) .nil)))) 0 0 (v0, (v1, (v2, (v3, ()))))) = st_laws_eqInt64S_0 M v0 v1 v2 v3 := by
  unfold st_laws_eqInt64S_0
  kernel_rfl
set_option maxRecDepth 100000 in
theorem lk_laws_eqInt64S_0 : LOk Try.prog Try.f11.ntmps ((loopsOf (Try.f11.body.getD .skip)).getD 0 .skip) (L_laws_eqInt64S_0 R) :=
  lok (F := 40) (Λ := lamOf []) (b := 1) good_nil follows (by kernel_rfl) (fun _ _ _ _ h => nomatch h) (by decide) (by decide) (by decide) (fun x => hs_laws_eqInt64S_0 R x.1 x.2.1 x.2.2.1 x.2.2.2.1)
set_option maxRecDepth 100000 in
theorem e_laws_eqInt64S (M : FOps) (a0 : (List Int)) (a1 : (List Int)) (h : r_laws_eqInt64S M a0 a1 = true) : cwp M Try.prog (envOf []) (lamOf [(0, L_laws_eqInt64S_0 M)]) 40 (Try.f11.body.getD .skip) 0 (retK Try.prog Try.f11.results.toList (.cons (.one .bool) .nil) 0) (initSt (.cons (.one (.ls (.int .i64))) (.cons (.one (.ls (.int .i64))) .nil)) (a0, (a1, ()))) = some (F_laws_eqInt64S (p_laws_eqInt64S M a0 a1)) := 
  Eq.trans (b := (brT ((↑a0.length : Int) != (↑a1.length : Int)) (some (F_laws_eqInt64S (false))) (brT ((c0_laws_eqInt64S M a0 a1).isSome) (brT (isL ((c0_laws_eqInt64S M a0 a1).getD (Sum.inl (false, ())))) (some (F_laws_eqInt64S ((getL (false, ()) ((c0_laws_eqInt64S M a0 a1).getD (Sum.inl (false, ())))).1))) (some (F_laws_eqInt64S (true)))) none))) (by kernel_rfl)
    ((pushR (fun _ => rfl) (pushL (fun _ => (push2 rfl rfl)))) h)
theorem ok_laws_eqInt64S : OkFn Try.prog 11 (S_laws_eqInt64S R) :=
  okFn_of good_nil follows Try.func11 rfl (by decide) (by decide) (lam_cons (i := 0) (cc := (loopsOf (Try.f11.body.getD .skip)).getD 0 .skip) (by kernel_rfl) lk_laws_eqInt64S_0 lam_nil) (m := 2) (fun _ => rfl) (by decide) (fun _ _ h => nomatch h) (fun _ _ h => nomatch h) (fun x hx => ⟨40, e_laws_eqInt64S R x.1 x.2.1 hx⟩)

theorem ok_laws_toNet_pk : OkFn Try.prog 8 (S_laws_toNet_pk R) := fun hp args r hS => by
  unfold S_laws_toNet_pk at hS
  cases hb : pkNet hp
  · rw [hb] at hS; exact ok_laws_toNet_fz hp args r hS
  · rw [hb] at hS; exact ok_laws_toNet hp args r hS

end Go.Proofs.Ytggaemodkekeeaa
