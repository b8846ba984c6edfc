/- Printed by gen2.py. -/
import Derived.Test.YthploccngbfmpaaGreatWs
import Derived.Test.YthploccngbfmpaaGreatZp
import Derived.Test.YthploccngbfmpaaGreatQd
import Derived.Test.YthploccngbfmpaaGreatWa
import Derived.Test.YthploccngbfmpaaGreatYc
import Derived.Test.YthploccngbfmpaaGreatQa
import Derived.Test.YthploccngbfmpaaGreatYa
import Derived.Test.YthploccngbfmpaaGreatLo
import Derived.Test.YthploccngbfmpaaGreatZa
set_option linter.unusedVariables false
set_option linter.unusedSimpArgs false

-- GENERATED BELOW (gen.py)
namespace Go.Proofs.YthploccngbfmpaaGreat
open Go Go.Cv Go.Dv
set_option maxRecDepth 100000 in
theorem hs_laws_eqComplex64S_0 (M : FOps) (v0 : (List (Nat × Nat))) (v1 : (List (Nat × Nat))) (v2 : Int) (v3 : Bool) : cwp M Tryz.prog (envOf [(47, S_laws_sameComplex M)]) (lamOf []) 40 ((loopsOf (Tryz.f30.body.getD .skip)).getD 0 .skip) 1 (stepK (.cons (.tv 0 true (.ls (.cx .f32))) (.cons (.tv 1 true (.ls (.cx .f32))) (.cons (.tv 5 false (.int .i64)) (.cons (.tv 4 false .bool) .nil)))) [(.ret, (.cons (.tv 4 false .bool) .nil)), ((.exit 0), (.cons (.tv 4 false .bool) .nil))]) (canon (.cons (.tv 0 true (.ls (.cx .f32))) (.cons (.tv 1 true (.ls (.cx .f32))) (.cons (.tv 5 false (.int .i64)) (.cons (.tv 4 false .bool) .nil)))) 0 0 (v0, (v1, (v2, (v3, ()))))) = st_laws_eqComplex64S_0 M v0 v1 v2 v3 := by
  unfold st_laws_eqComplex64S_0
  kernel_rfl
set_option maxRecDepth 100000 in
theorem lk_laws_eqComplex64S_0 : LOk Tryz.prog Tryz.f30.ntmps ((loopsOf (Tryz.f30.body.getD .skip)).getD 0 .skip) (L_laws_eqComplex64S_0 R) :=
  lok (F := 40) (Λ := lamOf []) (b := 1) (good_cons ok_laws_sameComplex good_nil) follows (by kernel_rfl) (fun _ _ _ _ h => nomatch h) (by decide) (by decide) (by decide) (fun x => hs_laws_eqComplex64S_0 R x.1 x.2.1 x.2.2.1 x.2.2.2.1)
set_option maxRecDepth 100000 in
theorem e_laws_eqComplex64S (M : FOps) (a0 : (List (Nat × Nat))) (a1 : (List (Nat × Nat))) (h : r_laws_eqComplex64S M a0 a1 = true) : cwp M Tryz.prog (envOf [(47, S_laws_sameComplex M)]) (lamOf [(0, L_laws_eqComplex64S_0 M)]) 40 (Tryz.f30.body.getD .skip) 0 (retK Tryz.prog Tryz.f30.results.toList (.cons (.one .bool) .nil) 0) (initSt (.cons (.one (.ls (.cx .f32))) (.cons (.one (.ls (.cx .f32))) .nil)) (a0, (a1, ()))) = some (F_laws_eqComplex64S (p_laws_eqComplex64S M a0 a1)) := 
  Eq.trans (b := (brT ((↑a0.length : Int) != (↑a1.length : Int)) (some (F_laws_eqComplex64S (false))) (brT ((c0_laws_eqComplex64S M a0 a1).isSome) (brT (isL ((c0_laws_eqComplex64S M a0 a1).getD (Sum.inl (false, ())))) (some (F_laws_eqComplex64S ((getL (false, ()) ((c0_laws_eqComplex64S M a0 a1).getD (Sum.inl (false, ())))).fst))) (some (F_laws_eqComplex64S (true)))) none))) (by kernel_rfl)
    ((pushR (fun _ => rfl) (pushL (fun _ => (push2 rfl rfl)))) h)
theorem ok_laws_eqComplex64S : OkFn Tryz.prog 30 (S_laws_eqComplex64S R) :=
  okFn_of (good_cons ok_laws_sameComplex good_nil) follows Tryz.func30 rfl (by decide) (by decide) (lam_cons (i := 0) (cc := (loopsOf (Tryz.f30.body.getD .skip)).getD 0 .skip) (by kernel_rfl) lk_laws_eqComplex64S_0 lam_nil) (m := 2) (fun _ => rfl) (by decide) (fun _ _ h => nomatch h) (fun _ _ h => nomatch h) (fun x hx => ⟨40, e_laws_eqComplex64S R x.1 x.2.1 hx⟩)

set_option maxRecDepth 100000 in
theorem hs_laws_markComplex64S_0 (M : FOps) (v0 : (List (Nat × Nat))) (v1 : Int) (v2 : Int) (v3 : Int) : cwp M Tryz.prog (envOf []) (lamOf []) 40 ((loopsOf (Tryz.f31.body.getD .skip)).getD 0 .skip) 1 (stepK (.cons (.to 0 0 (.cx .f32)) (.cons (.tv 1 false (.int .i64)) (.cons (.tv 5 false (.int .i64)) (.cons (.tv 4 false (.int .i64)) .nil)))) [((.exit 0), (.cons (.tv 1 false (.int .i64)) (.cons (.tv 4 false (.int .i64)) (.cons (.ar 0 (.cx .f32)) .nil))))]) (canon (.cons (.to 0 0 (.cx .f32)) (.cons (.tv 1 false (.int .i64)) (.cons (.tv 5 false (.int .i64)) (.cons (.tv 4 false (.int .i64)) .nil)))) 1 1 (v0, (v1, (v2, (v3, ()))))) = st_laws_markComplex64S_0 M v0 v1 v2 v3 := by
  unfold st_laws_markComplex64S_0
  kernel_rfl
set_option maxRecDepth 100000 in
theorem lk_laws_markComplex64S_0 : LOk Tryz.prog Tryz.f31.ntmps ((loopsOf (Tryz.f31.body.getD .skip)).getD 0 .skip) (L_laws_markComplex64S_0 R) :=
  lok (F := 40) (Λ := lamOf []) (b := 1) good_nil follows (by kernel_rfl) (fun _ _ _ _ h => nomatch h) (by decide) (by decide) (by decide) (fun x => hs_laws_markComplex64S_0 R x.1 x.2.1 x.2.2.1 x.2.2.2.1)
set_option maxRecDepth 100000 in
theorem e_laws_markComplex64S (M : FOps) (a0 : (List (Nat × Nat))) (a1 : Int) (h : r_laws_markComplex64S M a0 a1 = true) : cwp M Tryz.prog (envOf []) (lamOf [(0, L_laws_markComplex64S_0 M)]) 40 (Tryz.f31.body.getD .skip) 0 (retK Tryz.prog Tryz.f31.results.toList (.cons (.one (.int .i64)) .nil) 1) (initSt (.cons (.own (.cx .f32)) (.cons (.one (.int .i64)) .nil)) (a0, (a1, ()))) = some (F_laws_markComplex64S (p_laws_markComplex64S M a0 a1)) := 
  Eq.trans (b := (brT (a0.length.beq a0.length && true) (brT ((c0_laws_markComplex64S M a0 a1).isSome) (some (F_laws_markComplex64S ((((c0_laws_markComplex64S M a0 a1).getD (0, 0, [], ())).fst, ((c0_laws_markComplex64S M a0 a1).getD (0, 0, [], ())).snd.snd.fst)))) none) none)) (by kernel_rfl)
    ((pushL (pushL (fun _ => rfl))) h)
theorem ok_laws_markComplex64S : OkFn Tryz.prog 31 (S_laws_markComplex64S R) :=
  okFn_of good_nil follows Tryz.func31 rfl (by decide) (by decide) (lam_cons (i := 0) (cc := (loopsOf (Tryz.f31.body.getD .skip)).getD 0 .skip) (by kernel_rfl) lk_laws_markComplex64S_0 lam_nil) (m := 2) (fun _ => rfl) (by decide) (fun _ c h => by simp [F_laws_markComplex64S] at h; rcases h with rfl <;> exact ⟨_, _, rfl⟩) (fun _ _ h => nomatch h) (fun x hx => ⟨40, e_laws_markComplex64S R x.1 x.2.1 hx⟩)

set_option maxRecDepth 100000 in
theorem hs_laws_heldComplex64S_0 (M : FOps) (v0 : (List (Nat × Nat))) (v1 : Int) (v2 : Int) (v3 : Int) : cwp M Tryz.prog (envOf []) (lamOf []) 40 ((loopsOf (Tryz.f32.body.getD .skip)).getD 0 .skip) 1 (stepK (.cons (.tv 0 true (.ls (.cx .f32))) (.cons (.tv 1 false (.int .i64)) (.cons (.tv 5 false (.int .i64)) (.cons (.tv 4 false (.int .i64)) .nil)))) [(.ret, (.cons (.tv 4 false (.int .i64)) .nil)), ((.exit 0), (.cons (.tv 1 false (.int .i64)) (.cons (.tv 4 false (.int .i64)) .nil)))]) (canon (.cons (.tv 0 true (.ls (.cx .f32))) (.cons (.tv 1 false (.int .i64)) (.cons (.tv 5 false (.int .i64)) (.cons (.tv 4 false (.int .i64)) .nil)))) 0 0 (v0, (v1, (v2, (v3, ()))))) = st_laws_heldComplex64S_0 M v0 v1 v2 v3 := by
  unfold st_laws_heldComplex64S_0
  kernel_rfl
set_option maxRecDepth 100000 in
theorem lk_laws_heldComplex64S_0 : LOk Tryz.prog Tryz.f32.ntmps ((loopsOf (Tryz.f32.body.getD .skip)).getD 0 .skip) (L_laws_heldComplex64S_0 R) :=
  lok (F := 40) (Λ := lamOf []) (b := 1) good_nil follows (by kernel_rfl) (fun _ _ _ _ h => nomatch h) (by decide) (by decide) (by decide) (fun x => hs_laws_heldComplex64S_0 R x.1 x.2.1 x.2.2.1 x.2.2.2.1)
set_option maxRecDepth 100000 in
theorem e_laws_heldComplex64S (M : FOps) (a0 : (List (Nat × Nat))) (a1 : Int) (h : r_laws_heldComplex64S M a0 a1 = true) : cwp M Tryz.prog (envOf []) (lamOf [(0, L_laws_heldComplex64S_0 M)]) 40 (Tryz.f32.body.getD .skip) 0 (retK Tryz.prog Tryz.f32.results.toList (.cons (.one (.int .i64)) .nil) 0) (initSt (.cons (.one (.ls (.cx .f32))) (.cons (.one (.int .i64)) .nil)) (a0, (a1, ()))) = some (F_laws_heldComplex64S (p_laws_heldComplex64S M a0 a1)) := 
  Eq.trans (b := (brT ((c0_laws_heldComplex64S M a0 a1).isSome) (brT (isL ((c0_laws_heldComplex64S M a0 a1).getD (Sum.inl (0, ())))) (some (F_laws_heldComplex64S ((getL (0, ()) ((c0_laws_heldComplex64S M a0 a1).getD (Sum.inl (0, ())))).fst))) (some (F_laws_heldComplex64S ((getR (0, 0, ()) ((c0_laws_heldComplex64S M a0 a1).getD (Sum.inl (0, ())))).fst)))) none)) (by kernel_rfl)
    ((pushL (fun _ => (push2 rfl rfl))) h)
theorem ok_laws_heldComplex64S : OkFn Tryz.prog 32 (S_laws_heldComplex64S R) :=
  okFn_of good_nil follows Tryz.func32 rfl (by decide) (by decide) (lam_cons (i := 0) (cc := (loopsOf (Tryz.f32.body.getD .skip)).getD 0 .skip) (by kernel_rfl) lk_laws_heldComplex64S_0 lam_nil) (m := 2) (fun _ => rfl) (by decide) (fun _ _ h => nomatch h) (fun _ _ h => nomatch h) (fun x hx => ⟨40, e_laws_heldComplex64S R x.1 x.2.1 hx⟩)

set_option maxRecDepth 100000 in
theorem hs_spec_l03Points_0 (M : FOps) (v0 : Int) (v1 : Nat) (v2 : Nat) (v3 : Nat) (v4 : (List (Nat × Nat))) (v5 : (List (Nat × Nat))) (v6 : Int) (v7 : Int) (v8 : Bool) : cwp M Tryz.prog (envOf [(59, S_spec_l03Point M)]) (lamOf []) 40 ((loopsOf (Tryz.f81.body.getD .skip)).getD 0 .skip) 1 (stepK (.cons (.ti 0 (.pair (.int .i64) (.pair (.fl .f32) (.pair (.fl .f32) (.fl .f32))))) (.cons (.tv 1 true (.ls (.pair (.fl .f32) (.fl .f32)))) (.cons (.to 6 0 (.cx .f32)) (.cons (.tv 12 false (.int .i64)) (.cons (.tv 13 false (.int .i64)) (.cons (.tn 4) (.cons (.tv 5 false .bool) .nil))))))) [(.ret, (.cons (.tn 4) (.cons (.tv 5 false .bool) .nil))), ((.exit 0), (.cons (.to 6 0 (.cx .f32)) (.cons (.tn 4) (.cons (.tv 5 false .bool) .nil))))]) (canon (.cons (.ti 0 (.pair (.int .i64) (.pair (.fl .f32) (.pair (.fl .f32) (.fl .f32))))) (.cons (.tv 1 true (.ls (.pair (.fl .f32) (.fl .f32)))) (.cons (.to 6 0 (.cx .f32)) (.cons (.tv 12 false (.int .i64)) (.cons (.tv 13 false (.int .i64)) (.cons (.tn 4) (.cons (.tv 5 false .bool) .nil))))))) 1 0 ((v0, (v1, (v2, v3))), (v4, (v5, (v6, (v7, ((), (v8, ())))))))) = st_spec_l03Points_0 M v0 v1 v2 v3 v4 v5 v6 v7 v8 := by
  unfold st_spec_l03Points_0
  kernel_rfl
set_option maxRecDepth 100000 in
theorem lk_spec_l03Points_0 : LOk Tryz.prog Tryz.f81.ntmps ((loopsOf (Tryz.f81.body.getD .skip)).getD 0 .skip) (L_spec_l03Points_0 R) :=
  lok (F := 40) (Λ := lamOf []) (b := 1) (good_cons ok_spec_l03Point good_nil) follows (by kernel_rfl) (fun _ _ _ _ h => nomatch h) (by decide) (by decide) (by decide) (fun x => hs_spec_l03Points_0 R x.1.1 x.1.2.1 x.1.2.2.1 x.1.2.2.2 x.2.1 x.2.2.1 x.2.2.2.1 x.2.2.2.2.1 x.2.2.2.2.2.2.1)
set_option maxRecDepth 100000 in
theorem e_spec_l03Points (M : FOps) (a0_0 : Int) (a0_1 : Nat) (a0_2 : Nat) (a0_3 : Nat) (a1 : (List (Nat × Nat))) (h : r_spec_l03Points M a0_0 a0_1 a0_2 a0_3 a1 = true) : cwp M Tryz.prog (envOf [(59, S_spec_l03Point M)]) (lamOf [(0, L_spec_l03Points_0 M)]) 40 (Tryz.f81.body.getD .skip) 0 (retK Tryz.prog Tryz.f81.results.toList (.cons (.one (.ls (.cx .f32))) (.cons (.one .bool) .nil)) 0) (initSt (.cons (.ptr (.pair (.int .i64) (.pair (.pair (.fl .f32) (.fl .f32)) (.fl .f32)))) (.cons (.one (.ls (.pair (.fl .f32) (.fl .f32)))) .nil)) ((a0_0, ((a0_1, a0_2), a0_3)), (a1, ()))) = some (F_spec_l03Points (p_spec_l03Points M a0_0 a0_1 a0_2 a0_3 a1)) := 
  Eq.trans (b := (brT ((c0_spec_l03Points M a0_0 a0_1 a0_2 a0_3 a1).isSome) (brT (isL ((c0_spec_l03Points M a0_0 a0_1 a0_2 a0_3 a1).getD (Sum.inl ((), false, ())))) (some (F_spec_l03Points (([], (getL ((), false, ()) ((c0_spec_l03Points M a0_0 a0_1 a0_2 a0_3 a1).getD (Sum.inl ((), false, ())))).snd.fst)))) (brT ((List.length (getR ([], (), false, ()) ((c0_spec_l03Points M a0_0 a0_1 a0_2 a0_3 a1).getD (Sum.inl ((), false, ())))).fst).beq (List.length (getR ([], (), false, ()) ((c0_spec_l03Points M a0_0 a0_1 a0_2 a0_3 a1).getD (Sum.inl ((), false, ())))).fst) && true) (some (F_spec_l03Points (((getR ([], (), false, ()) ((c0_spec_l03Points M a0_0 a0_1 a0_2 a0_3 a1).getD (Sum.inl ((), false, ())))).fst, true)))) none)) none)) (by kernel_rfl)
    ((pushL (pushR (fun _ => rfl) (pushL (fun _ => rfl)))) h)
theorem ok_spec_l03Points : OkFn Tryz.prog 81 (S_spec_l03Points R) :=
  okFn_of (good_cons ok_spec_l03Point good_nil) follows Tryz.func81 rfl (by decide) (by decide) (lam_cons (i := 0) (cc := (loopsOf (Tryz.f81.body.getD .skip)).getD 0 .skip) (by kernel_rfl) lk_spec_l03Points_0 lam_nil) (m := 2) (fun _ => rfl) (by decide) (fun _ _ h => nomatch h) (fun y c h => by simp [encR, encC] at h; first | (subst h; exact ⟨_, _, rfl⟩) | (rcases h with rfl | rfl <;> exact ⟨_, _, rfl⟩) | (rcases h with rfl | rfl | rfl <;> exact ⟨_, _, rfl⟩)) (fun x hx => ⟨40, e_spec_l03Points R x.1.1 x.1.2.1.1 x.1.2.1.2 x.1.2.2 x.2.1 hx⟩)

set_option maxRecDepth 100000 in
theorem e_spec_l03Count (M : FOps) (a0 : Int) : cwp M Tryz.prog (envOf [(99, S_spec_l00In M)]) (lamOf []) 40 (Tryz.f78.body.getD .skip) 0 (retK Tryz.prog Tryz.f78.results.toList (.cons (.one .bool) .nil) 0) (initSt (.cons (.one (.int .i64)) .nil) (a0, ())) = some (F_spec_l03Count (p_spec_l03Count M a0)) := by kernel_rfl
theorem ok_spec_l03Count : OkFn Tryz.prog 78 (S_spec_l03Count R) :=
  okFn_of (good_cons ok_spec_l00In good_nil) follows Tryz.func78 rfl (by decide) (by decide) lam_nil (m := 1) (fun _ => rfl) (by decide) (fun _ _ h => nomatch h) (fun _ _ h => nomatch h) (fun x _ => ⟨40, e_spec_l03Count R x.1⟩)

set_option maxRecDepth 100000 in
theorem e_spec_l03Quotient (M : FOps) (a0 : Int) (a1 : Int) : cwp M Tryz.prog (envOf []) (lamOf []) 40 (Tryz.f79.body.getD .skip) 0 (retK Tryz.prog Tryz.f79.results.toList (.cons (.one (.fl .f32)) .nil) 0) (initSt (.cons (.one (.int .i64)) (.cons (.one (.int .i64)) .nil)) (a0, (a1, ()))) = some (F_spec_l03Quotient (p_spec_l03Quotient M a0 a1)) := by kernel_rfl
theorem ok_spec_l03Quotient : OkFn Tryz.prog 79 (S_spec_l03Quotient R) :=
  okFn_of good_nil follows Tryz.func79 rfl (by decide) (by decide) lam_nil (m := 2) (fun _ => rfl) (by decide) (fun _ _ h => nomatch h) (fun _ _ h => nomatch h) (fun x _ => ⟨40, e_spec_l03Quotient R x.1 x.2.1⟩)

set_option maxRecDepth 100000 in
theorem hs_spec_NorthLine_0 (M : FOps) (v0 : Nat) (v1 : Int) (v2 : Int) (v3 : Nat) (v4 : Nat) (v5 : Nat) (v6 : (List (Nat × Nat))) (v7 : Int) (v8 : Bool) : cwp M Tryz.prog (envOf [(57, S_spec_l03Is M), (78, S_spec_l03Count M), (79, S_spec_l03Quotient M), (80, S_spec_l02Wrap M), (81, S_spec_l03Points M)]) (lamOf []) 40 ((loopsOf (Tryz.f28.body.getD .skip)).getD 0 .skip) 1 (stepK (.cons (.tv 1 false (.fl .f32)) (.cons (.tv 2 false (.int .i64)) (.cons (.tp 3 0 0) (.cons (.bx 0 0 false (.int .i64)) (.cons (.bx 0 1 false (.fl .f32)) (.cons (.bx 0 2 false (.fl .f32)) (.cons (.bx 0 3 false (.fl .f32)) (.cons (.to 8 1 (.pair (.fl .f32) (.fl .f32))) (.cons (.tv 9 false (.int .i64)) (.cons (.tn 6) (.cons (.tv 7 false .bool) .nil))))))))))) [((.exit 0), (.cons (.tp 3 0 0) (.cons (.bx 0 0 false (.int .i64)) (.cons (.bx 0 1 false (.fl .f32)) (.cons (.bx 0 2 false (.fl .f32)) (.cons (.bx 0 3 false (.fl .f32)) (.cons (.to 8 1 (.pair (.fl .f32) (.fl .f32))) (.cons (.tn 6) (.cons (.tv 7 false .bool) .nil)))))))))]) (canon (.cons (.tv 1 false (.fl .f32)) (.cons (.tv 2 false (.int .i64)) (.cons (.tp 3 0 0) (.cons (.bx 0 0 false (.int .i64)) (.cons (.bx 0 1 false (.fl .f32)) (.cons (.bx 0 2 false (.fl .f32)) (.cons (.bx 0 3 false (.fl .f32)) (.cons (.to 8 1 (.pair (.fl .f32) (.fl .f32))) (.cons (.tv 9 false (.int .i64)) (.cons (.tn 6) (.cons (.tv 7 false .bool) .nil))))))))))) 2 0 (v0, (v1, ((), (v2, (v3, (v4, (v5, (v6, (v7, ((), (v8, ())))))))))))) = st_spec_NorthLine_0 M v0 v1 v2 v3 v4 v5 v6 v7 v8 := by
  unfold st_spec_NorthLine_0
  kernel_rfl
set_option maxRecDepth 100000 in
theorem lk_spec_NorthLine_0 : LOk Tryz.prog Tryz.f28.ntmps ((loopsOf (Tryz.f28.body.getD .skip)).getD 0 .skip) (L_spec_NorthLine_0 R) :=
  lok (F := 40) (Λ := lamOf []) (b := 1) (good_cons ok_spec_l03Is (good_cons ok_spec_l03Count (good_cons ok_spec_l03Quotient (good_cons ok_spec_l02Wrap (good_cons ok_spec_l03Points good_nil))))) follows (by kernel_rfl) (fun _ _ _ _ h => nomatch h) (by decide) (by decide) (by decide) (fun x => hs_spec_NorthLine_0 R x.1 x.2.1 x.2.2.2.1 x.2.2.2.2.1 x.2.2.2.2.2.1 x.2.2.2.2.2.2.1 x.2.2.2.2.2.2.2.1 x.2.2.2.2.2.2.2.2.1 x.2.2.2.2.2.2.2.2.2.2.1)
set_option maxRecDepth 100000 in
theorem e_spec_NorthLine (M : FOps) (a0_0 : Int) (a0_1 : Nat) (a0_2 : Nat) (a0_3 : Nat) (a1 : Nat) (a2 : Int) (h : r_spec_NorthLine M a0_0 a0_1 a0_2 a0_3 a1 a2 = true) : cwp M Tryz.prog (envOf [(57, S_spec_l03Is M), (78, S_spec_l03Count M), (79, S_spec_l03Quotient M), (80, S_spec_l02Wrap M), (81, S_spec_l03Points M)]) (lamOf [(0, L_spec_NorthLine_0 M)]) 40 (Tryz.f28.body.getD .skip) 0 (retK Tryz.prog Tryz.f28.results.toList (.cons (.one (.ls (.cx .f32))) (.cons (.one .bool) .nil)) 0) (initSt (.cons (.agg (.pair (.int .i64) (.pair (.pair (.fl .f32) (.fl .f32)) (.fl .f32)))) (.cons (.one (.fl .f32)) (.cons (.one (.int .i64)) .nil))) ((a0_0, ((a0_1, a0_2), a0_3)), (a1, (a2, ())))) = some (F_spec_NorthLine (p_spec_NorthLine M a0_0 a0_1 a0_2 a0_3 a1 a2)) := 
  Eq.trans (b := (brT (!p_spec_l03Is M a0_0 a0_1 a0_2 a0_3) (some (F_spec_NorthLine (([], false)))) (brT (M.cmp BinOp.geq FloatKind.f32 a1 3196059648) (brT (!M.cmp BinOp.leq FloatKind.f32 a1 1048576000) (some (F_spec_NorthLine (([], false)))) (brT (!p_spec_l03Count M a2) (some (F_spec_NorthLine (([], false)))) (brT ((c0_spec_NorthLine M a0_0 a0_1 a0_2 a0_3 a1 a2).isSome) (brT ((List.length ((c0_spec_NorthLine M a0_0 a0_1 a0_2 a0_3 a1 a2).getD ((), 0, 0, 0, 0, [], (), false, ())).snd.snd.snd.snd.snd.fst).beq (List.length ((c0_spec_NorthLine M a0_0 a0_1 a0_2 a0_3 a1 a2).getD ((), 0, 0, 0, 0, [], (), false, ())).snd.snd.snd.snd.snd.fst) && true && r_spec_l03Points M ((c0_spec_NorthLine M a0_0 a0_1 a0_2 a0_3 a1 a2).getD ((), 0, 0, 0, 0, [], (), false, ())).snd.fst ((c0_spec_NorthLine M a0_0 a0_1 a0_2 a0_3 a1 a2).getD ((), 0, 0, 0, 0, [], (), false, ())).snd.snd.fst ((c0_spec_NorthLine M a0_0 a0_1 a0_2 a0_3 a1 a2).getD ((), 0, 0, 0, 0, [], (), false, ())).snd.snd.snd.fst ((c0_spec_NorthLine M a0_0 a0_1 a0_2 a0_3 a1 a2).getD ((), 0, 0, 0, 0, [], (), false, ())).snd.snd.snd.snd.fst ((c0_spec_NorthLine M a0_0 a0_1 a0_2 a0_3 a1 a2).getD ((), 0, 0, 0, 0, [], (), false, ())).snd.snd.snd.snd.snd.fst) (brT ((c1_spec_NorthLine M a0_0 a0_1 a0_2 a0_3 a1 a2).fst.length.beq (c1_spec_NorthLine M a0_0 a0_1 a0_2 a0_3 a1 a2).fst.length && true) (some (F_spec_NorthLine (((c1_spec_NorthLine M a0_0 a0_1 a0_2 a0_3 a1 a2).fst, (c1_spec_NorthLine M a0_0 a0_1 a0_2 a0_3 a1 a2).snd)))) none) none) none))) (some (F_spec_NorthLine (([], false))))))) (by kernel_rfl)
    ((pushR (fun _ => rfl) (pushR (pushR (fun _ => rfl) (pushR (fun _ => rfl) (pushL (pushL (pushL (fun _ => rfl)))))) (fun _ => rfl))) h)
theorem ok_spec_NorthLine : OkFn Tryz.prog 28 (S_spec_NorthLine R) :=
  okFn_of (good_cons ok_spec_l03Is (good_cons ok_spec_l03Count (good_cons ok_spec_l03Quotient (good_cons ok_spec_l02Wrap (good_cons ok_spec_l03Points good_nil))))) follows Tryz.func28 rfl (by decide) (by decide) (lam_cons (i := 0) (cc := (loopsOf (Tryz.f28.body.getD .skip)).getD 0 .skip) (by kernel_rfl) lk_spec_NorthLine_0 lam_nil) (m := 3) (fun _ => rfl) (by decide) (fun _ _ h => nomatch h) (fun y c h => by simp [encR, encC] at h; first | (subst h; exact ⟨_, _, rfl⟩) | (rcases h with rfl | rfl <;> exact ⟨_, _, rfl⟩) | (rcases h with rfl | rfl | rfl <;> exact ⟨_, _, rfl⟩)) (fun x hx => ⟨40, e_spec_NorthLine R x.1.1 x.1.2.1.1 x.1.2.1.2 x.1.2.2 x.2.1 x.2.2.1 hx⟩)

end Go.Proofs.YthploccngbfmpaaGreat
