/- Printed by gen2.py. -/
import Derived.Test.YtbgpobiaaebbeaaGreatWs
import Derived.Test.YtbgpobiaaebbeaaGreatZp
import Derived.Test.YtbgpobiaaebbeaaGreatQd
import Derived.Test.YtbgpobiaaebbeaaGreatWa
import Derived.Test.YtbgpobiaaebbeaaGreatYc
import Derived.Test.YtbgpobiaaebbeaaGreatQa
import Derived.Test.YtbgpobiaaebbeaaGreatYa
import Derived.Test.YtbgpobiaaebbeaaGreatLo
import Derived.Test.YtbgpobiaaebbeaaGreatZa
set_option linter.unusedVariables false
set_option linter.unusedSimpArgs false

-- GENERATED BELOW (gen.py)
namespace Go.Proofs.YtbgpobiaaebbeaaGreat
open Go Go.Cv Go.Dv
set_option maxRecDepth 100000 in
theorem hs_laws_eqComplex64S_0 (M : FOps) (v0 : (List (Nat × Nat))) (v1 : (List (Nat × Nat))) (v2 : Int) (v3 : Bool) : cwp M Tryz.prog (envOf [(34, S_laws_sameComplex M)]) (lamOf []) 40 ((loopsOf (Tryz.f10.body.getD .skip)).getD 0 .skip) 1 (stepK (.cons (.tv 0 true (.ls (.cx .f32))) (.cons (.tv 1 true (.ls (.cx .f32))) (.cons (.tv 5 false (.int .i64)) (.cons (.tv 4 false .bool) .nil)))) [(.ret, (.cons (.tv 4 false .bool) .nil)), ((.exit 0), (.cons (.tv 4 false .bool) .nil))]) (canon (.cons (.tv 0 true (.ls (.cx .f32))) (.cons (.tv 1 true (.ls (.cx .f32))) (.cons (.tv 5 false (.int .i64)) (.cons (.tv 4 false .bool) .nil)))) 0 0 (v0, (v1, (v2, (v3, ()))))) = st_laws_eqComplex64S_0 M v0 v1 v2 v3 := by
  unfold st_laws_eqComplex64S_0
  kernel_rfl
set_option maxRecDepth 100000 in
theorem lk_laws_eqComplex64S_0 : LOk Tryz.prog Tryz.f10.ntmps ((loopsOf (Tryz.f10.body.getD .skip)).getD 0 .skip) (L_laws_eqComplex64S_0 R) :=
  lok (F := 40) (Λ := lamOf []) (b := 1) (good_cons ok_laws_sameComplex good_nil) follows (by kernel_rfl) (fun _ _ _ _ h => nomatch h) (by decide) (by decide) (by decide) (fun x => hs_laws_eqComplex64S_0 R x.1 x.2.1 x.2.2.1 x.2.2.2.1)
set_option maxRecDepth 100000 in
theorem e_laws_eqComplex64S (M : FOps) (a0 : (List (Nat × Nat))) (a1 : (List (Nat × Nat))) (h : r_laws_eqComplex64S M a0 a1 = true) : cwp M Tryz.prog (envOf [(34, S_laws_sameComplex M)]) (lamOf [(0, L_laws_eqComplex64S_0 M)]) 40 (Tryz.f10.body.getD .skip) 0 (retK Tryz.prog Tryz.f10.results.toList (.cons (.one .bool) .nil) 0) (initSt (.cons (.one (.ls (.cx .f32))) (.cons (.one (.ls (.cx .f32))) .nil)) (a0, (a1, ()))) = some (F_laws_eqComplex64S (p_laws_eqComplex64S M a0 a1)) := 
  Eq.trans (b := (brT ((↑a0.length : Int) != (↑a1.length : Int)) (some (F_laws_eqComplex64S (false))) (brT ((c0_laws_eqComplex64S M a0 a1).isSome) (brT (isL ((c0_laws_eqComplex64S M a0 a1).getD (Sum.inl (false, ())))) (some (F_laws_eqComplex64S ((getL (false, ()) ((c0_laws_eqComplex64S M a0 a1).getD (Sum.inl (false, ())))).fst))) (some (F_laws_eqComplex64S (true)))) none))) (by kernel_rfl)
    ((pushR (fun _ => rfl) (pushL (fun _ => (push2 rfl rfl)))) h)
theorem ok_laws_eqComplex64S : OkFn Tryz.prog 10 (S_laws_eqComplex64S R) :=
  okFn_of (good_cons ok_laws_sameComplex good_nil) follows Tryz.func10 rfl (by decide) (by decide) (lam_cons (i := 0) (cc := (loopsOf (Tryz.f10.body.getD .skip)).getD 0 .skip) (by kernel_rfl) lk_laws_eqComplex64S_0 lam_nil) (m := 2) (fun _ => rfl) (by decide) (fun _ _ h => nomatch h) (fun _ _ h => nomatch h) (fun x hx => ⟨40, e_laws_eqComplex64S R x.1 x.2.1 hx⟩)

set_option maxRecDepth 100000 in
theorem hs_laws_markComplex64S_0 (M : FOps) (v0 : (List (Nat × Nat))) (v1 : Int) (v2 : Int) (v3 : Int) : cwp M Tryz.prog (envOf []) (lamOf []) 40 ((loopsOf (Tryz.f11.body.getD .skip)).getD 0 .skip) 1 (stepK (.cons (.to 0 0 (.cx .f32)) (.cons (.tv 1 false (.int .i64)) (.cons (.tv 5 false (.int .i64)) (.cons (.tv 4 false (.int .i64)) .nil)))) [((.exit 0), (.cons (.tv 1 false (.int .i64)) (.cons (.tv 4 false (.int .i64)) (.cons (.ar 0 (.cx .f32)) .nil))))]) (canon (.cons (.to 0 0 (.cx .f32)) (.cons (.tv 1 false (.int .i64)) (.cons (.tv 5 false (.int .i64)) (.cons (.tv 4 false (.int .i64)) .nil)))) 1 1 (v0, (v1, (v2, (v3, ()))))) = st_laws_markComplex64S_0 M v0 v1 v2 v3 := by
  unfold st_laws_markComplex64S_0
  kernel_rfl
set_option maxRecDepth 100000 in
theorem lk_laws_markComplex64S_0 : LOk Tryz.prog Tryz.f11.ntmps ((loopsOf (Tryz.f11.body.getD .skip)).getD 0 .skip) (L_laws_markComplex64S_0 R) :=
  lok (F := 40) (Λ := lamOf []) (b := 1) good_nil follows (by kernel_rfl) (fun _ _ _ _ h => nomatch h) (by decide) (by decide) (by decide) (fun x => hs_laws_markComplex64S_0 R x.1 x.2.1 x.2.2.1 x.2.2.2.1)
set_option maxRecDepth 100000 in
theorem e_laws_markComplex64S (M : FOps) (a0 : (List (Nat × Nat))) (a1 : Int) (h : r_laws_markComplex64S M a0 a1 = true) : cwp M Tryz.prog (envOf []) (lamOf [(0, L_laws_markComplex64S_0 M)]) 40 (Tryz.f11.body.getD .skip) 0 (retK Tryz.prog Tryz.f11.results.toList (.cons (.one (.int .i64)) .nil) 1) (initSt (.cons (.own (.cx .f32)) (.cons (.one (.int .i64)) .nil)) (a0, (a1, ()))) = some (F_laws_markComplex64S (p_laws_markComplex64S M a0 a1)) := 
  Eq.trans (b := (brT (a0.length.beq a0.length && true) (brT ((c0_laws_markComplex64S M a0 a1).isSome) (some (F_laws_markComplex64S ((((c0_laws_markComplex64S M a0 a1).getD (0, 0, [], ())).fst, ((c0_laws_markComplex64S M a0 a1).getD (0, 0, [], ())).snd.snd.fst)))) none) none)) (by kernel_rfl)
    ((pushL (pushL (fun _ => rfl))) h)
theorem ok_laws_markComplex64S : OkFn Tryz.prog 11 (S_laws_markComplex64S R) :=
  okFn_of good_nil follows Tryz.func11 rfl (by decide) (by decide) (lam_cons (i := 0) (cc := (loopsOf (Tryz.f11.body.getD .skip)).getD 0 .skip) (by kernel_rfl) lk_laws_markComplex64S_0 lam_nil) (m := 2) (fun _ => rfl) (by decide) (fun _ c h => by simp [F_laws_markComplex64S] at h; rcases h with rfl <;> exact ⟨_, _, rfl⟩) (fun _ _ h => nomatch h) (fun x hx => ⟨40, e_laws_markComplex64S R x.1 x.2.1 hx⟩)

set_option maxRecDepth 100000 in
theorem hs_laws_heldComplex64S_0 (M : FOps) (v0 : (List (Nat × Nat))) (v1 : Int) (v2 : Int) (v3 : Int) : cwp M Tryz.prog (envOf []) (lamOf []) 40 ((loopsOf (Tryz.f12.body.getD .skip)).getD 0 .skip) 1 (stepK (.cons (.tv 0 true (.ls (.cx .f32))) (.cons (.tv 1 false (.int .i64)) (.cons (.tv 5 false (.int .i64)) (.cons (.tv 4 false (.int .i64)) .nil)))) [(.ret, (.cons (.tv 4 false (.int .i64)) .nil)), ((.exit 0), (.cons (.tv 1 false (.int .i64)) (.cons (.tv 4 false (.int .i64)) .nil)))]) (canon (.cons (.tv 0 true (.ls (.cx .f32))) (.cons (.tv 1 false (.int .i64)) (.cons (.tv 5 false (.int .i64)) (.cons (.tv 4 false (.int .i64)) .nil)))) 0 0 (v0, (v1, (v2, (v3, ()))))) = st_laws_heldComplex64S_0 M v0 v1 v2 v3 := by
  unfold st_laws_heldComplex64S_0
  kernel_rfl
set_option maxRecDepth 100000 in
theorem lk_laws_heldComplex64S_0 : LOk Tryz.prog Tryz.f12.ntmps ((loopsOf (Tryz.f12.body.getD .skip)).getD 0 .skip) (L_laws_heldComplex64S_0 R) :=
  lok (F := 40) (Λ := lamOf []) (b := 1) good_nil follows (by kernel_rfl) (fun _ _ _ _ h => nomatch h) (by decide) (by decide) (by decide) (fun x => hs_laws_heldComplex64S_0 R x.1 x.2.1 x.2.2.1 x.2.2.2.1)
set_option maxRecDepth 100000 in
theorem e_laws_heldComplex64S (M : FOps) (a0 : (List (Nat × Nat))) (a1 : Int) (h : r_laws_heldComplex64S M a0 a1 = true) : cwp M Tryz.prog (envOf []) (lamOf [(0, L_laws_heldComplex64S_0 M)]) 40 (Tryz.f12.body.getD .skip) 0 (retK Tryz.prog Tryz.f12.results.toList (.cons (.one (.int .i64)) .nil) 0) (initSt (.cons (.one (.ls (.cx .f32))) (.cons (.one (.int .i64)) .nil)) (a0, (a1, ()))) = some (F_laws_heldComplex64S (p_laws_heldComplex64S M a0 a1)) := 
  Eq.trans (b := (brT ((c0_laws_heldComplex64S M a0 a1).isSome) (brT (isL ((c0_laws_heldComplex64S M a0 a1).getD (Sum.inl (0, ())))) (some (F_laws_heldComplex64S ((getL (0, ()) ((c0_laws_heldComplex64S M a0 a1).getD (Sum.inl (0, ())))).fst))) (some (F_laws_heldComplex64S ((getR (0, 0, ()) ((c0_laws_heldComplex64S M a0 a1).getD (Sum.inl (0, ())))).fst)))) none)) (by kernel_rfl)
    ((pushL (fun _ => (push2 rfl rfl))) h)
theorem ok_laws_heldComplex64S : OkFn Tryz.prog 12 (S_laws_heldComplex64S R) :=
  okFn_of good_nil follows Tryz.func12 rfl (by decide) (by decide) (lam_cons (i := 0) (cc := (loopsOf (Tryz.f12.body.getD .skip)).getD 0 .skip) (by kernel_rfl) lk_laws_heldComplex64S_0 lam_nil) (m := 2) (fun _ => rfl) (by decide) (fun _ _ h => nomatch h) (fun _ _ h => nomatch h) (fun x hx => ⟨40, e_laws_heldComplex64S R x.1 x.2.1 hx⟩)

set_option maxRecDepth 100000 in
theorem hs_spec_l03Points_0 (M : FOps) (v0 : Int) (v1 : Nat) (v2 : Nat) (v3 : Nat) (v4 : (List (Nat × Nat))) (v5 : (List (Nat × Nat))) (v6 : Int) (v7 : Int) (v8 : Bool) : cwp M Tryz.prog (envOf [(51, S_spec_l03Point M)]) (lamOf []) 40 ((loopsOf (Tryz.f29.body.getD .skip)).getD 0 .skip) 1 (stepK (.cons (.ti 0 (.pair (.int .i64) (.pair (.fl .f32) (.pair (.fl .f32) (.fl .f32))))) (.cons (.tv 1 true (.ls (.pair (.fl .f32) (.fl .f32)))) (.cons (.to 6 0 (.cx .f32)) (.cons (.tv 12 false (.int .i64)) (.cons (.tv 13 false (.int .i64)) (.cons (.tn 4) (.cons (.tv 5 false .bool) .nil))))))) [(.ret, (.cons (.tn 4) (.cons (.tv 5 false .bool) .nil))), ((.exit 0), (.cons (.to 6 0 (.cx .f32)) (.cons (.tn 4) (.cons (.tv 5 false .bool) .nil))))]) (canon (.cons (.ti 0 (.pair (.int .i64) (.pair (.fl .f32) (.pair (.fl .f32) (.fl .f32))))) (.cons (.tv 1 true (.ls (.pair (.fl .f32) (.fl .f32)))) (.cons (.to 6 0 (.cx .f32)) (.cons (.tv 12 false (.int .i64)) (.cons (.tv 13 false (.int .i64)) (.cons (.tn 4) (.cons (.tv 5 false .bool) .nil))))))) 1 0 ((v0, (v1, (v2, v3))), (v4, (v5, (v6, (v7, ((), (v8, ())))))))) = st_spec_l03Points_0 M v0 v1 v2 v3 v4 v5 v6 v7 v8 := by
  unfold st_spec_l03Points_0
  kernel_rfl
set_option maxRecDepth 100000 in
theorem lk_spec_l03Points_0 : LOk Tryz.prog Tryz.f29.ntmps ((loopsOf (Tryz.f29.body.getD .skip)).getD 0 .skip) (L_spec_l03Points_0 R) :=
  lok (F := 40) (Λ := lamOf []) (b := 1) (good_cons ok_spec_l03Point good_nil) follows (by kernel_rfl) (fun _ _ _ _ h => nomatch h) (by decide) (by decide) (by decide) (fun x => hs_spec_l03Points_0 R x.1.1 x.1.2.1 x.1.2.2.1 x.1.2.2.2 x.2.1 x.2.2.1 x.2.2.2.1 x.2.2.2.2.1 x.2.2.2.2.2.2.1)
set_option maxRecDepth 100000 in
theorem e_spec_l03Points (M : FOps) (a0_0 : Int) (a0_1 : Nat) (a0_2 : Nat) (a0_3 : Nat) (a1 : (List (Nat × Nat))) (h : r_spec_l03Points M a0_0 a0_1 a0_2 a0_3 a1 = true) : cwp M Tryz.prog (envOf [(51, S_spec_l03Point M)]) (lamOf [(0, L_spec_l03Points_0 M)]) 40 (Tryz.f29.body.getD .skip) 0 (retK Tryz.prog Tryz.f29.results.toList (.cons (.one (.ls (.cx .f32))) (.cons (.one .bool) .nil)) 0) (initSt (.cons (.ptr (.pair (.int .i64) (.pair (.pair (.fl .f32) (.fl .f32)) (.fl .f32)))) (.cons (.one (.ls (.pair (.fl .f32) (.fl .f32)))) .nil)) ((a0_0, ((a0_1, a0_2), a0_3)), (a1, ()))) = some (F_spec_l03Points (p_spec_l03Points M a0_0 a0_1 a0_2 a0_3 a1)) := 
  Eq.trans (b := (brT ((c0_spec_l03Points M a0_0 a0_1 a0_2 a0_3 a1).isSome) (brT (isL ((c0_spec_l03Points M a0_0 a0_1 a0_2 a0_3 a1).getD (Sum.inl ((), false, ())))) (some (F_spec_l03Points (([], (getL ((), false, ()) ((c0_spec_l03Points M a0_0 a0_1 a0_2 a0_3 a1).getD (Sum.inl ((), false, ())))).snd.fst)))) (brT ((List.length (getR ([], (), false, ()) ((c0_spec_l03Points M a0_0 a0_1 a0_2 a0_3 a1).getD (Sum.inl ((), false, ())))).fst).beq (List.length (getR ([], (), false, ()) ((c0_spec_l03Points M a0_0 a0_1 a0_2 a0_3 a1).getD (Sum.inl ((), false, ())))).fst) && true) (some (F_spec_l03Points (((getR ([], (), false, ()) ((c0_spec_l03Points M a0_0 a0_1 a0_2 a0_3 a1).getD (Sum.inl ((), false, ())))).fst, true)))) none)) none)) (by kernel_rfl)
    ((pushL (pushR (fun _ => rfl) (pushL (fun _ => rfl)))) h)
theorem ok_spec_l03Points : OkFn Tryz.prog 29 (S_spec_l03Points R) :=
  okFn_of (good_cons ok_spec_l03Point good_nil) follows Tryz.func29 rfl (by decide) (by decide) (lam_cons (i := 0) (cc := (loopsOf (Tryz.f29.body.getD .skip)).getD 0 .skip) (by kernel_rfl) lk_spec_l03Points_0 lam_nil) (m := 2) (fun _ => rfl) (by decide) (fun _ _ h => nomatch h) (fun y c h => by simp [encR, encC] at h; first | (subst h; exact ⟨_, _, rfl⟩) | (rcases h with rfl | rfl <;> exact ⟨_, _, rfl⟩) | (rcases h with rfl | rfl | rfl <;> exact ⟨_, _, rfl⟩)) (fun x hx => ⟨40, e_spec_l03Points R x.1.1 x.1.2.1.1 x.1.2.1.2 x.1.2.2 x.2.1 hx⟩)

set_option maxRecDepth 100000 in
theorem e_spec_WrapEast (M : FOps) (a0 : Nat) : cwp M Tryz.prog (envOf [(49, S_spec_l02Wrap M)]) (lamOf []) 40 (Tryz.f25.body.getD .skip) 0 (retK Tryz.prog Tryz.f25.results.toList (.cons (.one (.fl .f32)) (.cons (.one .bool) .nil)) 0) (initSt (.cons (.one (.fl .f32)) .nil) (a0, ())) = some (F_spec_WrapEast (p_spec_WrapEast M a0)) := 
  Eq.trans (b := (brT (M.cmp BinOp.geq FloatKind.f32 a0 3296329728) (brT (!M.cmp BinOp.leq FloatKind.f32 a0 1148846080) (some (F_spec_WrapEast ((0, false)))) (some (F_spec_WrapEast ((p_spec_l02Wrap M a0, true))))) (some (F_spec_WrapEast ((0, false)))))) (by kernel_rfl)
    ((push2 (push2 rfl rfl) rfl))
theorem ok_spec_WrapEast : OkFn Tryz.prog 25 (S_spec_WrapEast R) :=
  okFn_of (good_cons ok_spec_l02Wrap good_nil) follows Tryz.func25 rfl (by decide) (by decide) lam_nil (m := 1) (fun _ => rfl) (by decide) (fun _ _ h => nomatch h) (fun _ _ h => nomatch h) (fun x _ => ⟨40, e_spec_WrapEast R x.1⟩)

set_option maxRecDepth 100000 in
theorem e_impl_WrapEast (M : FOps) (a0 : Nat) : cwp M Tryz.prog (envOf [(52, S_impl_finite M), (53, S_impl_wrap M), (54, S_impl_inside M)]) (lamOf []) 40 (Tryz.f30.body.getD .skip) 0 (retK Tryz.prog Tryz.f30.results.toList (.cons (.one (.fl .f32)) (.cons (.one .bool) .nil)) 0) (initSt (.cons (.one (.fl .f32)) .nil) (a0, ())) = some (F_impl_WrapEast (p_impl_WrapEast M a0)) := by kernel_rfl
theorem ok_impl_WrapEast : OkFn Tryz.prog 30 (S_impl_WrapEast R) :=
  okFn_of (good_cons ok_impl_finite (good_cons ok_impl_wrap (good_cons ok_impl_inside good_nil))) follows Tryz.func30 rfl (by decide) (by decide) lam_nil (m := 1) (fun _ => rfl) (by decide) (fun _ _ h => nomatch h) (fun _ _ h => nomatch h) (fun x _ => ⟨40, e_impl_WrapEast R x.1⟩)

set_option maxRecDepth 100000 in
theorem e_spec_l03Count (M : FOps) (a0 : Int) : cwp M Tryz.prog (envOf [(50, S_spec_l00In M)]) (lamOf []) 40 (Tryz.f27.body.getD .skip) 0 (retK Tryz.prog Tryz.f27.results.toList (.cons (.one .bool) .nil) 0) (initSt (.cons (.one (.int .i64)) .nil) (a0, ())) = some (F_spec_l03Count (p_spec_l03Count M a0)) := by kernel_rfl
theorem ok_spec_l03Count : OkFn Tryz.prog 27 (S_spec_l03Count R) :=
  okFn_of (good_cons ok_spec_l00In good_nil) follows Tryz.func27 rfl (by decide) (by decide) lam_nil (m := 1) (fun _ => rfl) (by decide) (fun _ _ h => nomatch h) (fun _ _ h => nomatch h) (fun x _ => ⟨40, e_spec_l03Count R x.1⟩)

set_option maxRecDepth 100000 in
theorem e_spec_l03Quotient (M : FOps) (a0 : Int) (a1 : Int) : cwp M Tryz.prog (envOf []) (lamOf []) 40 (Tryz.f28.body.getD .skip) 0 (retK Tryz.prog Tryz.f28.results.toList (.cons (.one (.fl .f32)) .nil) 0) (initSt (.cons (.one (.int .i64)) (.cons (.one (.int .i64)) .nil)) (a0, (a1, ()))) = some (F_spec_l03Quotient (p_spec_l03Quotient M a0 a1)) := by kernel_rfl
theorem ok_spec_l03Quotient : OkFn Tryz.prog 28 (S_spec_l03Quotient R) :=
  okFn_of good_nil follows Tryz.func28 rfl (by decide) (by decide) lam_nil (m := 2) (fun _ => rfl) (by decide) (fun _ _ h => nomatch h) (fun _ _ h => nomatch h) (fun x _ => ⟨40, e_spec_l03Quotient R x.1 x.2.1⟩)

set_option maxRecDepth 100000 in
theorem hs_spec_EastLine_0 (M : FOps) (v0 : Int) (v1 : Nat) (v2 : (List (Nat × Nat))) (v3 : Int) (v4 : Int) (v5 : Nat) (v6 : Nat) (v7 : Nat) (v8 : Bool) : cwp M Tryz.prog (envOf [(26, S_spec_l03Is M), (27, S_spec_l03Count M), (28, S_spec_l03Quotient M), (29, S_spec_l03Points M), (25, S_spec_WrapEast M)]) (lamOf []) 40 ((loopsOf (Tryz.f7.body.getD .skip)).getD 0 .skip) 1 (stepK (.cons (.tv 2 false (.int .i64)) (.cons (.tv 8 false (.fl .f32)) (.cons (.to 10 1 (.pair (.fl .f32) (.fl .f32))) (.cons (.tv 11 false (.int .i64)) (.cons (.tp 3 0 0) (.cons (.bx 0 0 false (.int .i64)) (.cons (.bx 0 1 false (.fl .f32)) (.cons (.bx 0 2 false (.fl .f32)) (.cons (.bx 0 3 false (.fl .f32)) (.cons (.tn 6) (.cons (.tv 7 false .bool) .nil))))))))))) [((.exit 0), (.cons (.tp 3 0 0) (.cons (.bx 0 0 false (.int .i64)) (.cons (.bx 0 1 false (.fl .f32)) (.cons (.bx 0 2 false (.fl .f32)) (.cons (.bx 0 3 false (.fl .f32)) (.cons (.to 10 1 (.pair (.fl .f32) (.fl .f32))) (.cons (.tn 6) (.cons (.tv 7 false .bool) .nil)))))))))]) (canon (.cons (.tv 2 false (.int .i64)) (.cons (.tv 8 false (.fl .f32)) (.cons (.to 10 1 (.pair (.fl .f32) (.fl .f32))) (.cons (.tv 11 false (.int .i64)) (.cons (.tp 3 0 0) (.cons (.bx 0 0 false (.int .i64)) (.cons (.bx 0 1 false (.fl .f32)) (.cons (.bx 0 2 false (.fl .f32)) (.cons (.bx 0 3 false (.fl .f32)) (.cons (.tn 6) (.cons (.tv 7 false .bool) .nil))))))))))) 2 0 (v0, (v1, (v2, (v3, ((), (v4, (v5, (v6, (v7, ((), (v8, ())))))))))))) = st_spec_EastLine_0 M v0 v1 v2 v3 v4 v5 v6 v7 v8 := by
  unfold st_spec_EastLine_0
  kernel_rfl
set_option maxRecDepth 100000 in
theorem lk_spec_EastLine_0 : LOk Tryz.prog Tryz.f7.ntmps ((loopsOf (Tryz.f7.body.getD .skip)).getD 0 .skip) (L_spec_EastLine_0 R) :=
  lok (F := 40) (Λ := lamOf []) (b := 1) (good_cons ok_spec_l03Is (good_cons ok_spec_l03Count (good_cons ok_spec_l03Quotient (good_cons ok_spec_l03Points (good_cons ok_spec_WrapEast good_nil))))) follows (by kernel_rfl) (fun _ _ _ _ h => nomatch h) (by decide) (by decide) (by decide) (fun x => hs_spec_EastLine_0 R x.1 x.2.1 x.2.2.1 x.2.2.2.1 x.2.2.2.2.2.1 x.2.2.2.2.2.2.1 x.2.2.2.2.2.2.2.1 x.2.2.2.2.2.2.2.2.1 x.2.2.2.2.2.2.2.2.2.2.1)
set_option maxRecDepth 100000 in
theorem e_spec_EastLine (M : FOps) (a0_0 : Int) (a0_1 : Nat) (a0_2 : Nat) (a0_3 : Nat) (a1 : Nat) (a2 : Int) (h : r_spec_EastLine M a0_0 a0_1 a0_2 a0_3 a1 a2 = true) : cwp M Tryz.prog (envOf [(26, S_spec_l03Is M), (27, S_spec_l03Count M), (28, S_spec_l03Quotient M), (29, S_spec_l03Points M), (25, S_spec_WrapEast M)]) (lamOf [(0, L_spec_EastLine_0 M)]) 40 (Tryz.f7.body.getD .skip) 0 (retK Tryz.prog Tryz.f7.results.toList (.cons (.one (.ls (.cx .f32))) (.cons (.one .bool) .nil)) 0) (initSt (.cons (.agg (.pair (.int .i64) (.pair (.pair (.fl .f32) (.fl .f32)) (.fl .f32)))) (.cons (.one (.fl .f32)) (.cons (.one (.int .i64)) .nil))) ((a0_0, ((a0_1, a0_2), a0_3)), (a1, (a2, ())))) = some (F_spec_EastLine (p_spec_EastLine M a0_0 a0_1 a0_2 a0_3 a1 a2)) := 
  Eq.trans (b := (brT (!p_spec_l03Is M a0_0 a0_1 a0_2 a0_3) (some (F_spec_EastLine (([], false)))) (brT (!(c0_spec_EastLine M a0_0 a0_1 a0_2 a0_3 a1 a2).snd) (some (F_spec_EastLine (([], false)))) (brT (!p_spec_l03Count M a2) (some (F_spec_EastLine (([], false)))) (brT ((c1_spec_EastLine M a0_0 a0_1 a0_2 a0_3 a1 a2).isSome) (brT ((List.length ((c1_spec_EastLine M a0_0 a0_1 a0_2 a0_3 a1 a2).getD ((), 0, 0, 0, 0, [], (), false, ())).snd.snd.snd.snd.snd.fst).beq (List.length ((c1_spec_EastLine M a0_0 a0_1 a0_2 a0_3 a1 a2).getD ((), 0, 0, 0, 0, [], (), false, ())).snd.snd.snd.snd.snd.fst) && true && r_spec_l03Points M ((c1_spec_EastLine M a0_0 a0_1 a0_2 a0_3 a1 a2).getD ((), 0, 0, 0, 0, [], (), false, ())).snd.fst ((c1_spec_EastLine M a0_0 a0_1 a0_2 a0_3 a1 a2).getD ((), 0, 0, 0, 0, [], (), false, ())).snd.snd.fst ((c1_spec_EastLine M a0_0 a0_1 a0_2 a0_3 a1 a2).getD ((), 0, 0, 0, 0, [], (), false, ())).snd.snd.snd.fst ((c1_spec_EastLine M a0_0 a0_1 a0_2 a0_3 a1 a2).getD ((), 0, 0, 0, 0, [], (), false, ())).snd.snd.snd.snd.fst ((c1_spec_EastLine M a0_0 a0_1 a0_2 a0_3 a1 a2).getD ((), 0, 0, 0, 0, [], (), false, ())).snd.snd.snd.snd.snd.fst) (brT ((c2_spec_EastLine M a0_0 a0_1 a0_2 a0_3 a1 a2).fst.length.beq (c2_spec_EastLine M a0_0 a0_1 a0_2 a0_3 a1 a2).fst.length && true) (some (F_spec_EastLine (((c2_spec_EastLine M a0_0 a0_1 a0_2 a0_3 a1 a2).fst, (c2_spec_EastLine M a0_0 a0_1 a0_2 a0_3 a1 a2).snd)))) none) none) none))))) (by kernel_rfl)
    ((pushR (fun _ => rfl) (pushR (fun _ => rfl) (pushR (fun _ => rfl) (pushL (pushL (pushL (fun _ => rfl))))))) h)
theorem ok_spec_EastLine : OkFn Tryz.prog 7 (S_spec_EastLine R) :=
  okFn_of (good_cons ok_spec_l03Is (good_cons ok_spec_l03Count (good_cons ok_spec_l03Quotient (good_cons ok_spec_l03Points (good_cons ok_spec_WrapEast good_nil))))) follows Tryz.func7 rfl (by decide) (by decide) (lam_cons (i := 0) (cc := (loopsOf (Tryz.f7.body.getD .skip)).getD 0 .skip) (by kernel_rfl) lk_spec_EastLine_0 lam_nil) (m := 3) (fun _ => rfl) (by decide) (fun _ _ h => nomatch h) (fun y c h => by simp [encR, encC] at h; first | (subst h; exact ⟨_, _, rfl⟩) | (rcases h with rfl | rfl <;> exact ⟨_, _, rfl⟩) | (rcases h with rfl | rfl | rfl <;> exact ⟨_, _, rfl⟩)) (fun x hx => ⟨40, e_spec_EastLine R x.1.1 x.1.2.1.1 x.1.2.1.2 x.1.2.2 x.2.1 x.2.2.1 hx⟩)

end Go.Proofs.YtbgpobiaaebbeaaGreat
