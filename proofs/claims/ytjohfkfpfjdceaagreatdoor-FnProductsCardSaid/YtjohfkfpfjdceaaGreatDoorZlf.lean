/- Printed by gen2.py. -/
import Derived.Test.YtjohfkfpfjdceaaGreatDoorWlf
import Derived.Test.YtjohfkfpfjdceaaGreatDoorZlc

set_option linter.unusedVariables false
set_option linter.unusedSimpArgs false

-- GENERATED BELOW (gen.py)
namespace Go.Proofs.YtjohfkfpfjdceaaGreatDoor
open Go Go.Cv Go.Dv
set_option maxRecDepth 100000 in
theorem e_impl_parts (M : FOps) (a0_0 : Nat) (a0_1 : Nat) : cwp M Tryz.prog (envOf []) (lamOf []) 40 (Tryz.f97.body.getD .skip) 0 (retK Tryz.prog Tryz.f97.results.toList (.cons (.one (.fl .f64)) (.cons (.one (.fl .f64)) .nil)) 0) (initSt (.cons (.one (.cx .f32)) .nil) ((a0_0, a0_1), ())) = some (F_impl_parts (p_impl_parts M a0_0 a0_1)) := by kernel_rfl
theorem ok_impl_parts : OkFn Tryz.prog 97 (S_impl_parts R) :=
  okFn_of good_nil follows Tryz.func97 rfl (by decide) (by decide) lam_nil (m := 1) (fun _ => rfl) (by decide) (fun _ _ h => nomatch h) (fun _ _ h => nomatch h) (fun x _ => ⟨40, e_impl_parts R x.1.1 x.1.2⟩)

set_option maxRecDepth 100000 in
theorem e_impl_power (M : FOps) (a0_0 : Nat) (a0_1 : Nat) : cwp M Tryz.prog (envOf [(97, S_impl_parts M)]) (lamOf []) 40 (Tryz.f47.body.getD .skip) 0 (retK Tryz.prog Tryz.f47.results.toList (.cons (.one (.fl .f64)) .nil) 0) (initSt (.cons (.one (.cx .f32)) .nil) ((a0_0, a0_1), ())) = some (F_impl_power (p_impl_power M a0_0 a0_1)) := by kernel_rfl
theorem ok_impl_power : OkFn Tryz.prog 47 (S_impl_power R) :=
  okFn_of (good_cons ok_impl_parts good_nil) follows Tryz.func47 rfl (by decide) (by decide) lam_nil (m := 1) (fun _ => rfl) (by decide) (fun _ _ h => nomatch h) (fun _ _ h => nomatch h) (fun x _ => ⟨40, e_impl_power R x.1.1 x.1.2⟩)

set_option maxRecDepth 100000 in
theorem e_impl_product (M : FOps) (a0_0 : Nat) (a0_1 : Nat) (a1_0 : Nat) (a1_1 : Nat) : cwp M Tryz.prog (envOf [(97, S_impl_parts M)]) (lamOf []) 40 (Tryz.f46.body.getD .skip) 0 (retK Tryz.prog Tryz.f46.results.toList (.cons (.one (.fl .f64)) (.cons (.one (.fl .f64)) .nil)) 0) (initSt (.cons (.one (.cx .f32)) (.cons (.one (.cx .f32)) .nil)) ((a0_0, a0_1), ((a1_0, a1_1), ()))) = some (F_impl_product (p_impl_product M a0_0 a0_1 a1_0 a1_1)) := by kernel_rfl
theorem ok_impl_product : OkFn Tryz.prog 46 (S_impl_product R) :=
  okFn_of (good_cons ok_impl_parts good_nil) follows Tryz.func46 rfl (by decide) (by decide) lam_nil (m := 2) (fun _ => rfl) (by decide) (fun _ _ h => nomatch h) (fun _ _ h => nomatch h) (fun x _ => ⟨40, e_impl_product R x.1.1 x.1.2 x.2.1.1 x.2.1.2⟩)

set_option maxRecDepth 100000 in
theorem e_impl_MulComplex (M : FOps) (a0_0 : Nat) (a0_1 : Nat) (a1_0 : Nat) (a1_1 : Nat) (h : r_impl_MulComplex M a0_0 a0_1 a1_0 a1_1 = true) : cwp M Tryz.prog (envOf [(46, S_impl_product M)]) (lamOf []) 40 (Tryz.f8.body.getD .skip) 0 (retK Tryz.prog Tryz.f8.results.toList (.cons (.one (.cx .f32)) .nil) 0) (initSt (.cons (.one (.cx .f32)) (.cons (.one (.cx .f32)) .nil)) ((a0_0, a0_1), ((a1_0, a1_1), ()))) = some (F_impl_MulComplex (p_impl_MulComplex M a0_0 a0_1 a1_0 a1_1)) := 
  Eq.trans (b := (brT (M.narOk (c0_impl_MulComplex M a0_0 a0_1 a1_0 a1_1).fst) (brT (M.narOk (c0_impl_MulComplex M a0_0 a0_1 a1_0 a1_1).snd) (some (F_impl_MulComplex ((M.nar (c0_impl_MulComplex M a0_0 a0_1 a1_0 a1_1).fst, M.nar (c0_impl_MulComplex M a0_0 a0_1 a1_0 a1_1).snd)))) none) none)) (by kernel_rfl)
    ((pushL (pushL (fun _ => rfl))) h)
theorem ok_impl_MulComplex : OkFn Tryz.prog 8 (S_impl_MulComplex R) :=
  okFn_of (good_cons ok_impl_product good_nil) follows Tryz.func8 rfl (by decide) (by decide) lam_nil (m := 2) (fun _ => rfl) (by decide) (fun _ _ h => nomatch h) (fun _ _ h => nomatch h) (fun x hx => ⟨40, e_impl_MulComplex R x.1.1 x.1.2 x.2.1.1 x.2.1.2 hx⟩)

set_option maxRecDepth 100000 in
theorem e_impl_ConjugateOf (M : FOps) (a0_0 : Nat) (a0_1 : Nat) : cwp M Tryz.prog (envOf []) (lamOf []) 40 (Tryz.f10.body.getD .skip) 0 (retK Tryz.prog Tryz.f10.results.toList (.cons (.one (.cx .f32)) .nil) 0) (initSt (.cons (.one (.cx .f32)) .nil) ((a0_0, a0_1), ())) = some (F_impl_ConjugateOf (p_impl_ConjugateOf M a0_0 a0_1)) := by kernel_rfl
theorem ok_impl_ConjugateOf : OkFn Tryz.prog 10 (S_impl_ConjugateOf R) :=
  okFn_of good_nil follows Tryz.func10 rfl (by decide) (by decide) lam_nil (m := 1) (fun _ => rfl) (by decide) (fun _ _ h => nomatch h) (fun _ _ h => nomatch h) (fun x _ => ⟨40, e_impl_ConjugateOf R x.1.1 x.1.2⟩)

set_option maxRecDepth 100000 in
theorem e_impl_LongOf (M : FOps) (a0_0 : Nat) (a0_1 : Nat) (h : r_impl_LongOf M a0_0 a0_1 = true) : cwp M Tryz.prog (envOf [(47, S_impl_power M), (49, S_math_Sqrt M)]) (lamOf []) 40 (Tryz.f12.body.getD .skip) 0 (retK Tryz.prog Tryz.f12.results.toList (.cons (.one (.fl .f32)) .nil) 0) (initSt (.cons (.one (.cx .f32)) .nil) ((a0_0, a0_1), ())) = some (F_impl_LongOf (p_impl_LongOf M a0_0 a0_1)) := 
  Eq.trans (b := (brT (M.narOk (c0_impl_LongOf M a0_0 a0_1)) (some (F_impl_LongOf (M.nar (c0_impl_LongOf M a0_0 a0_1)))) none)) (by kernel_rfl)
    ((pushL (fun _ => rfl)) h)
theorem ok_impl_LongOf : OkFn Tryz.prog 12 (S_impl_LongOf R) :=
  okFn_of (good_cons ok_impl_power (good_cons ok_math_Sqrt good_nil)) follows Tryz.func12 rfl (by decide) (by decide) lam_nil (m := 1) (fun _ => rfl) (by decide) (fun _ _ h => nomatch h) (fun _ _ h => nomatch h) (fun x hx => ⟨40, e_impl_LongOf R x.1.1 x.1.2 hx⟩)

set_option maxRecDepth 100000 in
theorem hs_spec_B10Whole_0 (M : FOps) (v0 : Int) (v1 : Int) (v2 : (List Int)) (v3 : Int) (v4 : Int) (v5 : (List (Nat × Nat))) : cwp M Tryz.prog (envOf [(44, S_spec_l00From M), (45, S_spec_l00Src_pick M)]) (lamOf []) 40 ((loopsOf (Tryz.f7.body.getD .skip)).getD 0 .skip) 1 (stepK (.cons (.tv 1 false (.int .i64)) (.cons (.tv 2 false (.int .i64)) (.cons (.te 7 0 3) (.cons (.ax 0 (.pair (.ls (.int .u8)) (.pair (.int .i64) (.int .u64)))) (.cons (.to 8 1 (.cx .f32)) (.cons (.tn 6) .nil)))))) [((.exit 0), (.cons (.to 8 1 (.cx .f32)) (.cons (.tn 6) .nil)))]) (canon (.cons (.tv 1 false (.int .i64)) (.cons (.tv 2 false (.int .i64)) (.cons (.te 7 0 3) (.cons (.ax 0 (.pair (.ls (.int .u8)) (.pair (.int .i64) (.int .u64)))) (.cons (.to 8 1 (.cx .f32)) (.cons (.tn 6) .nil)))))) 2 0 (v0, (v1, ((), ((v2, (v3, v4)), (v5, ((), ()))))))) = st_spec_B10Whole_0 M v0 v1 v2 v3 v4 v5 := by
  unfold st_spec_B10Whole_0
  kernel_rfl
set_option maxRecDepth 100000 in
theorem lk_spec_B10Whole_0 : LOk Tryz.prog Tryz.f7.ntmps ((loopsOf (Tryz.f7.body.getD .skip)).getD 0 .skip) (L_spec_B10Whole_0 R) :=
  lok (F := 40) (Λ := lamOf []) (b := 1) (good_cons ok_spec_l00From (good_cons ok_spec_l00Src_pick good_nil)) follows (by kernel_rfl) (fun _ _ _ _ h => nomatch h) (by decide) (by decide) (by decide) (fun x => hs_spec_B10Whole_0 R x.1 x.2.1 x.2.2.2.1.1 x.2.2.2.1.2.1 x.2.2.2.1.2.2 x.2.2.2.2.1)
set_option maxRecDepth 100000 in
theorem e_spec_B10Whole (M : FOps) (a0 : (List Int)) (a1 : Int) (a2 : Int) (h : r_spec_B10Whole M a0 a1 a2 = true) : cwp M Tryz.prog (envOf [(44, S_spec_l00From M), (45, S_spec_l00Src_pick M)]) (lamOf [(0, L_spec_B10Whole_0 M)]) 40 (Tryz.f7.body.getD .skip) 0 (retK Tryz.prog Tryz.f7.results.toList (.cons (.one (.ls (.cx .f32))) .nil) 0) (initSt (.cons (.fz (.ls (.int .u8))) (.cons (.one (.int .i64)) (.cons (.one (.int .i64)) .nil))) (a0, (a1, (a2, ())))) = some (F_spec_B10Whole (p_spec_B10Whole M a0 a1 a2)) := 
  Eq.trans (b := (brT ((c1_spec_B10Whole M a0 a1 a2).isSome) (brT ((List.length ((c1_spec_B10Whole M a0 a1 a2).getD ([], (), ())).fst).beq (List.length ((c1_spec_B10Whole M a0 a1 a2).getD ([], (), ())).fst) && true) (some (F_spec_B10Whole (((c1_spec_B10Whole M a0 a1 a2).getD ([], (), ())).fst))) none) none)) (by kernel_rfl)
    ((pushL (pushL (fun _ => rfl))) h)
theorem ok_spec_B10Whole : OkFn Tryz.prog 7 (S_spec_B10Whole R) :=
  okFn_of (good_cons ok_spec_l00From (good_cons ok_spec_l00Src_pick good_nil)) follows Tryz.func7 rfl (by decide) (by decide) (lam_cons (i := 0) (cc := (loopsOf (Tryz.f7.body.getD .skip)).getD 0 .skip) (by kernel_rfl) lk_spec_B10Whole_0 lam_nil) (m := 3) (fun _ => rfl) (by decide) (fun _ _ h => nomatch h) (fun y c h => by simp [encR, encC] at h; first | (subst h; exact ⟨_, _, rfl⟩) | (rcases h with rfl | rfl <;> exact ⟨_, _, rfl⟩) | (rcases h with rfl | rfl | rfl <;> exact ⟨_, _, rfl⟩)) (fun x hx => ⟨40, e_spec_B10Whole R x.1 x.2.1 x.2.2.1 hx⟩)

set_option maxRecDepth 100000 in
theorem e_spec_l01DrawComplex (M : FOps) (a0_0 : (List Int)) (a0_1 : Int) (a0_2 : Int) (h : r_spec_l01DrawComplex M a0_0 a0_1 a0_2 = true) : cwp M Tryz.prog (envOf [(59, S_spec_l01DrawFloat M)]) (lamOf []) 40 (Tryz.f63.body.getD .skip) 0 (retK Tryz.prog Tryz.f63.results.toList (.cons (.one (.cx .f32)) .nil) 1) (initSt (.cons (.pe (.pair (.ls (.int .u8)) (.pair (.int .i64) (.int .u64)))) .nil) ((a0_0, (a0_1, a0_2)), ())) = some (F_spec_l01DrawComplex (p_spec_l01DrawComplex M a0_0 a0_1 a0_2)) := 
  Eq.trans (b := (brT (r_spec_l01DrawFloat M a0_0 a0_1 a0_2) (brT (r_spec_l01DrawFloat M (c0_spec_l01DrawComplex M a0_0 a0_1 a0_2).snd.fst (c0_spec_l01DrawComplex M a0_0 a0_1 a0_2).snd.snd.fst (c0_spec_l01DrawComplex M a0_0 a0_1 a0_2).snd.snd.snd) (some (F_spec_l01DrawComplex (((c0_spec_l01DrawComplex M a0_0 a0_1 a0_2).fst, (c1_spec_l01DrawComplex M a0_0 a0_1 a0_2).fst, (c1_spec_l01DrawComplex M a0_0 a0_1 a0_2).snd.fst, (c1_spec_l01DrawComplex M a0_0 a0_1 a0_2).snd.snd.fst, (c1_spec_l01DrawComplex M a0_0 a0_1 a0_2).snd.snd.snd)))) none) none)) (by kernel_rfl)
    ((pushL (pushL (fun _ => rfl))) h)
theorem ok_spec_l01DrawComplex : OkFn Tryz.prog 63 (S_spec_l01DrawComplex R) :=
  okFn_of (good_cons ok_spec_l01DrawFloat good_nil) follows Tryz.func63 rfl (by decide) (by decide) lam_nil (m := 1) (fun _ => rfl) (by decide) (fun _ c h => by simp [F_spec_l01DrawComplex] at h; rcases h with rfl <;> exact ⟨_, _, rfl⟩) (fun _ _ h => nomatch h) (fun x hx => ⟨40, e_spec_l01DrawComplex R x.1.1 x.1.2.1 x.1.2.2 hx⟩)

set_option maxRecDepth 100000 in
theorem e_spec_l01DrawFine (M : FOps) (a0_0 : (List Int)) (a0_1 : Int) (a0_2 : Int) (h : r_spec_l01DrawFine M a0_0 a0_1 a0_2 = true) : cwp M Tryz.prog (envOf [(45, S_spec_l00Src_pick M)]) (lamOf []) 40 (Tryz.f64.body.getD .skip) 0 (retK Tryz.prog Tryz.f64.results.toList (.cons (.one (.cx .f32)) .nil) 1) (initSt (.cons (.pe (.pair (.ls (.int .u8)) (.pair (.int .i64) (.int .u64)))) .nil) ((a0_0, (a0_1, a0_2)), ())) = some (F_spec_l01DrawFine (p_spec_l01DrawFine M a0_0 a0_1 a0_2)) := 
  Eq.trans (b := (brT (r_spec_l00Src_pick M a0_0 a0_1 a0_2 65) (brT (r_spec_l00Src_pick M (c0_spec_l01DrawFine M a0_0 a0_1 a0_2).snd.fst (c0_spec_l01DrawFine M a0_0 a0_1 a0_2).snd.snd.fst (c0_spec_l01DrawFine M a0_0 a0_1 a0_2).snd.snd.snd 65) (some (F_spec_l01DrawFine ((M.bin BinOp.quo FloatKind.f32 (M.ofi FloatKind.f32 (IntKind.i64.wrap ((c0_spec_l01DrawFine M a0_0 a0_1 a0_2).fst - 32))) 1098907648, M.bin BinOp.quo FloatKind.f32 (M.ofi FloatKind.f32 (IntKind.i64.wrap ((c1_spec_l01DrawFine M a0_0 a0_1 a0_2).fst - 32))) 1098907648, (c1_spec_l01DrawFine M a0_0 a0_1 a0_2).snd.fst, (c1_spec_l01DrawFine M a0_0 a0_1 a0_2).snd.snd.fst, (c1_spec_l01DrawFine M a0_0 a0_1 a0_2).snd.snd.snd)))) none) none)) (by kernel_rfl)
    ((pushL (pushL (fun _ => rfl))) h)
theorem ok_spec_l01DrawFine : OkFn Tryz.prog 64 (S_spec_l01DrawFine R) :=
  okFn_of (good_cons ok_spec_l00Src_pick good_nil) follows Tryz.func64 rfl (by decide) (by decide) lam_nil (m := 1) (fun _ => rfl) (by decide) (fun _ c h => by simp [F_spec_l01DrawFine] at h; rcases h with rfl <;> exact ⟨_, _, rfl⟩) (fun _ _ h => nomatch h) (fun x hx => ⟨40, e_spec_l01DrawFine R x.1.1 x.1.2.1 x.1.2.2 hx⟩)

set_option maxRecDepth 100000 in
theorem hs_spec_l01DrawComplexes_0 (M : FOps) (v0 : (List Int)) (v1 : Int) (v2 : Int) (v3 : Int) (v4 : (List (Nat × Nat))) (v5 : Bool) : cwp M Tryz.prog (envOf [(57, S_spec_l00Src_one M), (63, S_spec_l01DrawComplex M), (64, S_spec_l01DrawFine M)]) (lamOf []) 40 ((loopsOf (Tryz.f51.body.getD .skip)).getD 0 .skip) 1 (stepK (.cons (.te 0 0 3) (.cons (.ax 0 (.pair (.ls (.int .u8)) (.pair (.int .i64) (.int .u64)))) (.cons (.tv 1 false (.int .i64)) (.cons (.to 5 1 (.cx .f32)) (.cons (.tv 6 false .bool) (.cons (.tn 4) .nil)))))) [((.exit 0), (.cons (.to 5 1 (.cx .f32)) (.cons (.tn 4) (.cons (.ax 0 (.pair (.ls (.int .u8)) (.pair (.int .i64) (.int .u64)))) .nil))))]) (canon (.cons (.te 0 0 3) (.cons (.ax 0 (.pair (.ls (.int .u8)) (.pair (.int .i64) (.int .u64)))) (.cons (.tv 1 false (.int .i64)) (.cons (.to 5 1 (.cx .f32)) (.cons (.tv 6 false .bool) (.cons (.tn 4) .nil)))))) 2 1 ((), ((v0, (v1, v2)), (v3, (v4, (v5, ((), ()))))))) = st_spec_l01DrawComplexes_0 M v0 v1 v2 v3 v4 v5 := by
  unfold st_spec_l01DrawComplexes_0
  kernel_rfl
set_option maxRecDepth 100000 in
theorem lk_spec_l01DrawComplexes_0 : LOk Tryz.prog Tryz.f51.ntmps ((loopsOf (Tryz.f51.body.getD .skip)).getD 0 .skip) (L_spec_l01DrawComplexes_0 R) :=
  lok (F := 40) (Λ := lamOf []) (b := 1) (good_cons ok_spec_l00Src_one (good_cons ok_spec_l01DrawComplex (good_cons ok_spec_l01DrawFine good_nil))) follows (by kernel_rfl) (fun _ _ _ _ h => nomatch h) (by decide) (by decide) (by decide) (fun x => hs_spec_l01DrawComplexes_0 R x.2.1.1 x.2.1.2.1 x.2.1.2.2 x.2.2.1 x.2.2.2.1 x.2.2.2.2.1)
set_option maxRecDepth 100000 in
theorem e_spec_l01DrawComplexes (M : FOps) (a0_0 : (List Int)) (a0_1 : Int) (a0_2 : Int) (a1 : Int) (h : r_spec_l01DrawComplexes M a0_0 a0_1 a0_2 a1 = true) : cwp M Tryz.prog (envOf [(57, S_spec_l00Src_one M), (63, S_spec_l01DrawComplex M), (64, S_spec_l01DrawFine M)]) (lamOf [(0, L_spec_l01DrawComplexes_0 M)]) 40 (Tryz.f51.body.getD .skip) 0 (retK Tryz.prog Tryz.f51.results.toList (.cons (.one (.ls (.cx .f32))) .nil) 1) (initSt (.cons (.pe (.pair (.ls (.int .u8)) (.pair (.int .i64) (.int .u64)))) (.cons (.one (.int .i64)) .nil)) ((a0_0, (a0_1, a0_2)), (a1, ()))) = some (F_spec_l01DrawComplexes (p_spec_l01DrawComplexes M a0_0 a0_1 a0_2 a1)) := 
  Eq.trans (b := (brT (r_spec_l00Src_one M a0_0 a0_1 a0_2 5) (brT ((c1_spec_l01DrawComplexes M a0_0 a0_1 a0_2 a1).isSome) (brT ((List.length ((c1_spec_l01DrawComplexes M a0_0 a0_1 a0_2 a1).getD ([], (), ([], 0, 0), ())).fst).beq (List.length ((c1_spec_l01DrawComplexes M a0_0 a0_1 a0_2 a1).getD ([], (), ([], 0, 0), ())).fst) && true) (some (F_spec_l01DrawComplexes ((((c1_spec_l01DrawComplexes M a0_0 a0_1 a0_2 a1).getD ([], (), ([], 0, 0), ())).fst, ((c1_spec_l01DrawComplexes M a0_0 a0_1 a0_2 a1).getD ([], (), ([], 0, 0), ())).snd.snd.fst.fst, ((c1_spec_l01DrawComplexes M a0_0 a0_1 a0_2 a1).getD ([], (), ([], 0, 0), ())).snd.snd.fst.snd.fst, ((c1_spec_l01DrawComplexes M a0_0 a0_1 a0_2 a1).getD ([], (), ([], 0, 0), ())).snd.snd.fst.snd.snd)))) none) none) none)) (by kernel_rfl)
    ((pushL (pushL (pushL (fun _ => rfl)))) h)
theorem ok_spec_l01DrawComplexes : OkFn Tryz.prog 51 (S_spec_l01DrawComplexes R) :=
  okFn_of (good_cons ok_spec_l00Src_one (good_cons ok_spec_l01DrawComplex (good_cons ok_spec_l01DrawFine good_nil))) follows Tryz.func51 rfl (by decide) (by decide) (lam_cons (i := 0) (cc := (loopsOf (Tryz.f51.body.getD .skip)).getD 0 .skip) (by kernel_rfl) lk_spec_l01DrawComplexes_0 lam_nil) (m := 2) (fun _ => rfl) (by decide) (fun _ c h => by simp [F_spec_l01DrawComplexes] at h; rcases h with rfl <;> exact ⟨_, _, rfl⟩) (fun y c h => by simp [encR, encC] at h; first | (subst h; exact ⟨_, _, rfl⟩) | (rcases h with rfl | rfl <;> exact ⟨_, _, rfl⟩) | (rcases h with rfl | rfl | rfl <;> exact ⟨_, _, rfl⟩)) (fun x hx => ⟨40, e_spec_l01DrawComplexes R x.1.1 x.1.2.1 x.1.2.2 x.2.1 hx⟩)

set_option maxRecDepth 100000 in
theorem e_spec_B10Any (M : FOps) (a0 : (List Int)) (a1 : Int) (h : r_spec_B10Any M a0 a1 = true) : cwp M Tryz.prog (envOf [(44, S_spec_l00From M), (51, S_spec_l01DrawComplexes M)]) (lamOf []) 40 (Tryz.f16.body.getD .skip) 0 (retK Tryz.prog Tryz.f16.results.toList (.cons (.one (.ls (.cx .f32))) .nil) 0) (initSt (.cons (.fz (.ls (.int .u8))) (.cons (.one (.int .i64)) .nil)) (a0, (a1, ()))) = some (F_spec_B10Any (p_spec_B10Any M a0 a1)) := 
  Eq.trans (b := (brT (r_spec_l01DrawComplexes M (c0_spec_B10Any M a0 a1).fst (c0_spec_B10Any M a0 a1).snd.fst (c0_spec_B10Any M a0 a1).snd.snd a1) (brT ((p_spec_l01DrawComplexes M (c0_spec_B10Any M a0 a1).fst (c0_spec_B10Any M a0 a1).snd.fst (c0_spec_B10Any M a0 a1).snd.snd a1).fst.length.beq (p_spec_l01DrawComplexes M (c0_spec_B10Any M a0 a1).fst (c0_spec_B10Any M a0 a1).snd.fst (c0_spec_B10Any M a0 a1).snd.snd a1).fst.length && true) (some (F_spec_B10Any ((p_spec_l01DrawComplexes M (c0_spec_B10Any M a0 a1).fst (c0_spec_B10Any M a0 a1).snd.fst (c0_spec_B10Any M a0 a1).snd.snd a1).fst))) none) none)) (by kernel_rfl)
    ((pushL (pushL (fun _ => rfl))) h)
theorem ok_spec_B10Any : OkFn Tryz.prog 16 (S_spec_B10Any R) :=
  okFn_of (good_cons ok_spec_l00From (good_cons ok_spec_l01DrawComplexes good_nil)) follows Tryz.func16 rfl (by decide) (by decide) lam_nil (m := 2) (fun _ => rfl) (by decide) (fun _ _ h => nomatch h) (fun y c h => by simp [encR, encC] at h; first | (subst h; exact ⟨_, _, rfl⟩) | (rcases h with rfl | rfl <;> exact ⟨_, _, rfl⟩) | (rcases h with rfl | rfl | rfl <;> exact ⟨_, _, rfl⟩)) (fun x hx => ⟨40, e_spec_B10Any R x.1 x.2.1 hx⟩)

set_option maxRecDepth 100000 in
theorem e_spec_B10Complex (M : FOps) (a0 : (List Int)) (h : r_spec_B10Complex M a0 = true) : cwp M Tryz.prog (envOf [(44, S_spec_l00From M), (57, S_spec_l00Src_one M), (63, S_spec_l01DrawComplex M), (64, S_spec_l01DrawFine M)]) (lamOf []) 40 (Tryz.f23.body.getD .skip) 0 (retK Tryz.prog Tryz.f23.results.toList (.cons (.one (.cx .f32)) .nil) 0) (initSt (.cons (.fz (.ls (.int .u8))) .nil) (a0, ())) = some (F_spec_B10Complex (p_spec_B10Complex M a0)) := 
  Eq.trans (b := (brT (r_spec_l00Src_one M (c0_spec_B10Complex M a0).fst (c0_spec_B10Complex M a0).snd.fst (c0_spec_B10Complex M a0).snd.snd 4) (brT ((c1_spec_B10Complex M a0).fst) (brT (r_spec_l01DrawComplex M (c1_spec_B10Complex M a0).snd.fst (c1_spec_B10Complex M a0).snd.snd.fst (c1_spec_B10Complex M a0).snd.snd.snd) (some (F_spec_B10Complex (((c2_spec_B10Complex M a0).fst, (c2_spec_B10Complex M a0).snd.fst)))) none) (brT (r_spec_l01DrawFine M (c1_spec_B10Complex M a0).snd.fst (c1_spec_B10Complex M a0).snd.snd.fst (c1_spec_B10Complex M a0).snd.snd.snd) (some (F_spec_B10Complex (((c3_spec_B10Complex M a0).fst, (c3_spec_B10Complex M a0).snd.fst)))) none)) none)) (by kernel_rfl)
    ((pushL (pushR (pushL (fun _ => rfl)) (pushL (fun _ => rfl)))) h)
theorem ok_spec_B10Complex : OkFn Tryz.prog 23 (S_spec_B10Complex R) :=
  okFn_of (good_cons ok_spec_l00From (good_cons ok_spec_l00Src_one (good_cons ok_spec_l01DrawComplex (good_cons ok_spec_l01DrawFine good_nil)))) follows Tryz.func23 rfl (by decide) (by decide) lam_nil (m := 1) (fun _ => rfl) (by decide) (fun _ _ h => nomatch h) (fun _ _ h => nomatch h) (fun x hx => ⟨40, e_spec_B10Complex R x.1 hx⟩)

set_option maxRecDepth 100000 in
theorem e_impl_PowerOf (M : FOps) (a0_0 : Nat) (a0_1 : Nat) (h : r_impl_PowerOf M a0_0 a0_1 = true) : cwp M Tryz.prog (envOf [(47, S_impl_power M)]) (lamOf []) 40 (Tryz.f9.body.getD .skip) 0 (retK Tryz.prog Tryz.f9.results.toList (.cons (.one (.fl .f32)) .nil) 0) (initSt (.cons (.one (.cx .f32)) .nil) ((a0_0, a0_1), ())) = some (F_impl_PowerOf (p_impl_PowerOf M a0_0 a0_1)) := 
  Eq.trans (b := (brT (M.narOk (c0_impl_PowerOf M a0_0 a0_1)) (some (F_impl_PowerOf (M.nar (c0_impl_PowerOf M a0_0 a0_1)))) none)) (by kernel_rfl)
    ((pushL (fun _ => rfl)) h)
theorem ok_impl_PowerOf : OkFn Tryz.prog 9 (S_impl_PowerOf R) :=
  okFn_of (good_cons ok_impl_power good_nil) follows Tryz.func9 rfl (by decide) (by decide) lam_nil (m := 1) (fun _ => rfl) (by decide) (fun _ _ h => nomatch h) (fun _ _ h => nomatch h) (fun x hx => ⟨40, e_impl_PowerOf R x.1.1 x.1.2 hx⟩)

set_option maxRecDepth 100000 in
theorem e_impl_QuotientOf (M : FOps) (a0_0 : Nat) (a0_1 : Nat) (a1_0 : Nat) (a1_1 : Nat) (h : r_impl_QuotientOf M a0_0 a0_1 a1_0 a1_1 = true) : cwp M Tryz.prog (envOf [(10, S_impl_ConjugateOf M), (46, S_impl_product M), (47, S_impl_power M)]) (lamOf []) 40 (Tryz.f14.body.getD .skip) 0 (retK Tryz.prog Tryz.f14.results.toList (.cons (.one (.cx .f32)) .nil) 0) (initSt (.cons (.one (.cx .f32)) (.cons (.one (.cx .f32)) .nil)) ((a0_0, a0_1), ((a1_0, a1_1), ()))) = some (F_impl_QuotientOf (p_impl_QuotientOf M a0_0 a0_1 a1_0 a1_1)) := 
  Eq.trans (b := (brT (M.narOk (c3_impl_QuotientOf M a0_0 a0_1 a1_0 a1_1)) (brT (M.narOk (c4_impl_QuotientOf M a0_0 a0_1 a1_0 a1_1)) (some (F_impl_QuotientOf ((M.nar (c3_impl_QuotientOf M a0_0 a0_1 a1_0 a1_1), M.nar (c4_impl_QuotientOf M a0_0 a0_1 a1_0 a1_1))))) none) none)) (by kernel_rfl)
    ((pushL (pushL (fun _ => rfl))) h)
theorem ok_impl_QuotientOf : OkFn Tryz.prog 14 (S_impl_QuotientOf R) :=
  okFn_of (good_cons ok_impl_ConjugateOf (good_cons ok_impl_product (good_cons ok_impl_power good_nil))) follows Tryz.func14 rfl (by decide) (by decide) lam_nil (m := 2) (fun _ => rfl) (by decide) (fun _ _ h => nomatch h) (fun _ _ h => nomatch h) (fun x hx => ⟨40, e_impl_QuotientOf R x.1.1 x.1.2 x.2.1.1 x.2.1.2 hx⟩)

set_option maxRecDepth 100000 in
theorem e_impl_ScaleComplex (M : FOps) (a0_0 : Nat) (a0_1 : Nat) (a1 : Nat) : cwp M Tryz.prog (envOf []) (lamOf []) 40 (Tryz.f15.body.getD .skip) 0 (retK Tryz.prog Tryz.f15.results.toList (.cons (.one (.cx .f32)) .nil) 0) (initSt (.cons (.one (.cx .f32)) (.cons (.one (.fl .f32)) .nil)) ((a0_0, a0_1), (a1, ()))) = some (F_impl_ScaleComplex (p_impl_ScaleComplex M a0_0 a0_1 a1)) := by kernel_rfl
theorem ok_impl_ScaleComplex : OkFn Tryz.prog 15 (S_impl_ScaleComplex R) :=
  okFn_of good_nil follows Tryz.func15 rfl (by decide) (by decide) lam_nil (m := 2) (fun _ => rfl) (by decide) (fun _ _ h => nomatch h) (fun _ _ h => nomatch h) (fun x _ => ⟨40, e_impl_ScaleComplex R x.1.1 x.1.2 x.2.1⟩)

set_option maxRecDepth 100000 in
theorem e_impl_complexText (M : FOps) (a0_0 : Nat) (a0_1 : Nat) (h : r_impl_complexText M a0_0 a0_1 = true) : cwp M Tryz.prog (envOf [(74, S_impl_bitsText M)]) (lamOf []) 40 (Tryz.f54.body.getD .skip) 0 (retK Tryz.prog Tryz.f54.results.toList (.cons (.one .str) .nil) 0) (initSt (.cons (.one (.cx .f32)) .nil) ((a0_0, a0_1), ())) = some (F_impl_complexText (p_impl_complexText M a0_0 a0_1)) := 
  Eq.trans (b := (brT (r_impl_bitsText M a0_0) (brT (r_impl_bitsText M a0_1) (brT (((c0_impl_complexText M a0_0 a0_1).size + (c1_impl_complexText M a0_0 a0_1).size).ble 4611686018427387904) (some (F_impl_complexText ((c0_impl_complexText M a0_0 a0_1) ++ (c1_impl_complexText M a0_0 a0_1)))) none) none) none)) (by kernel_rfl)
    ((pushL (pushL (pushL (fun _ => rfl)))) h)
theorem ok_impl_complexText : OkFn Tryz.prog 54 (S_impl_complexText R) :=
  okFn_of (good_cons ok_impl_bitsText good_nil) follows Tryz.func54 rfl (by decide) (by decide) lam_nil (m := 1) (fun _ => rfl) (by decide) (fun _ _ h => nomatch h) (fun _ _ h => nomatch h) (fun x hx => ⟨40, e_impl_complexText R x.1.1 x.1.2 hx⟩)

set_option maxRecDepth 100000 in
theorem e_impl_isList_complex64 (M : FOps) (a0 : (List (Nat × Nat))) : cwp M Tryz.prog (envOf []) (lamOf []) 40 (Tryz.f52.body.getD .skip) 0 (retK Tryz.prog Tryz.f52.results.toList (.cons (.one .bool) .nil) 0) (initSt (.cons (.one (.ls (.cx .f32))) .nil) (a0, ())) = some (F_impl_isList_complex64 (p_impl_isList_complex64 M a0)) := by kernel_rfl
theorem ok_impl_isList_complex64 : OkFn Tryz.prog 52 (S_impl_isList_complex64 R) :=
  okFn_of good_nil follows Tryz.func52 rfl (by decide) (by decide) lam_nil (m := 1) (fun _ => rfl) (by decide) (fun _ _ h => nomatch h) (fun _ _ h => nomatch h) (fun x _ => ⟨40, e_impl_isList_complex64 R x.1⟩)

set_option maxRecDepth 100000 in
theorem hs_impl_joinTexts_complex64_0 (M : FOps) (v0 : (List ByteArray)) (v1 : (List (Nat × Nat))) (v2 : Int) (v3 : Int) (v4 : ByteArray) : cwp M Tryz.prog (envOf [(54, S_impl_complexText M), (101, S_strings_Join M)]) (lamOf []) 40 ((loopsOf (Tryz.f53.body.getD .skip)).getD 0 .skip) 1 (stepK (.cons (.tf 1 54) (.cons (.to 5 0 .str) (.cons (.tv 11 true (.ls (.cx .f32))) (.cons (.tv 12 false (.int .i64)) (.cons (.tv 13 false (.int .i64)) (.cons (.tv 4 false .str) .nil)))))) [((.exit 0), (.cons (.to 5 0 .str) (.cons (.tv 4 false .str) .nil)))]) (canon (.cons (.tf 1 54) (.cons (.to 5 0 .str) (.cons (.tv 11 true (.ls (.cx .f32))) (.cons (.tv 12 false (.int .i64)) (.cons (.tv 13 false (.int .i64)) (.cons (.tv 4 false .str) .nil)))))) 1 0 ((), (v0, (v1, (v2, (v3, (v4, ()))))))) = st_impl_joinTexts_complex64_0 M v0 v1 v2 v3 v4 := by
  unfold st_impl_joinTexts_complex64_0
  kernel_rfl
set_option maxRecDepth 100000 in
theorem lk_impl_joinTexts_complex64_0 : LOk Tryz.prog Tryz.f53.ntmps ((loopsOf (Tryz.f53.body.getD .skip)).getD 0 .skip) (L_impl_joinTexts_complex64_0 R) :=
  lok (F := 40) (Λ := lamOf []) (b := 1) (good_cons ok_impl_complexText (good_cons ok_strings_Join good_nil)) follows (by kernel_rfl) (fun _ _ _ _ h => nomatch h) (by decide) (by decide) (by decide) (fun x => hs_impl_joinTexts_complex64_0 R x.2.1 x.2.2.1 x.2.2.2.1 x.2.2.2.2.1 x.2.2.2.2.2.1)
set_option maxRecDepth 100000 in
theorem e_impl_joinTexts_complex64 (M : FOps) (a0 : (List (Nat × Nat))) (h : r_impl_joinTexts_complex64 M a0 = true) : cwp M Tryz.prog (envOf [(54, S_impl_complexText M), (101, S_strings_Join M)]) (lamOf [(0, L_impl_joinTexts_complex64_0 M)]) 40 (Tryz.f53.body.getD .skip) 0 (retK Tryz.prog Tryz.f53.results.toList (.cons (.one .str) .nil) 0) (initSt (.cons (.one (.ls (.cx .f32))) (.cons (.fn 54 .nil) .nil)) (a0, ((), ()))) = some (F_impl_joinTexts_complex64 (p_impl_joinTexts_complex64 M a0)) := 
  Eq.trans (b := (brT ((↑a0.length : Int) == 0) (some (F_impl_joinTexts_complex64 ((ByteArray.mk #[110, 111, 110, 101])))) (brT ((c0_impl_joinTexts_complex64 M a0).isSome) (brT ((List.length ((c0_impl_joinTexts_complex64 M a0).getD ([], (ByteArray.mk #[]), ())).fst).beq (List.length ((c0_impl_joinTexts_complex64 M a0).getD ([], (ByteArray.mk #[]), ())).fst) && true && r_strings_Join M ((c0_impl_joinTexts_complex64 M a0).getD ([], (ByteArray.mk #[]), ())).fst (ByteArray.mk #[44])) (some (F_impl_joinTexts_complex64 (p_strings_Join M ((c0_impl_joinTexts_complex64 M a0).getD ([], (ByteArray.mk #[]), ())).fst (ByteArray.mk #[44])))) none) none))) (by kernel_rfl)
    ((pushR (fun _ => rfl) (pushL (pushL (fun _ => rfl)))) h)
theorem ok_impl_joinTexts_complex64 : OkFn Tryz.prog 53 (S_impl_joinTexts_complex64 R) :=
  okFn_of (good_cons ok_impl_complexText (good_cons ok_strings_Join good_nil)) follows Tryz.func53 rfl (by decide) (by decide) (lam_cons (i := 0) (cc := (loopsOf (Tryz.f53.body.getD .skip)).getD 0 .skip) (by kernel_rfl) lk_impl_joinTexts_complex64_0 lam_nil) (m := 2) (fun _ => rfl) (by decide) (fun _ _ h => nomatch h) (fun _ _ h => nomatch h) (fun x hx => ⟨40, e_impl_joinTexts_complex64 R x.1 hx⟩)

set_option maxRecDepth 100000 in
theorem e_impl_ComplexText (M : FOps) (a0 : (List (Nat × Nat))) (h : r_impl_ComplexText M a0 = true) : cwp M Tryz.prog (envOf [(52, S_impl_isList_complex64 M), (53, S_impl_joinTexts_complex64 M), (54, S_impl_complexText M)]) (lamOf []) 40 (Tryz.f18.body.getD .skip) 0 (retK Tryz.prog Tryz.f18.results.toList (.cons (.one .str) (.cons (.one .bool) .nil)) 0) (initSt (.cons (.one (.ls (.cx .f32))) .nil) (a0, ())) = some (F_impl_ComplexText (p_impl_ComplexText M a0)) := 
  Eq.trans (b := (brT (!p_impl_isList_complex64 M a0) (some (F_impl_ComplexText (((ByteArray.mk #[]), false)))) (brT (r_impl_joinTexts_complex64 M a0) (some (F_impl_ComplexText ((p_impl_joinTexts_complex64 M a0, true)))) none))) (by kernel_rfl)
    ((pushR (fun _ => rfl) (pushL (fun _ => rfl))) h)
theorem ok_impl_ComplexText : OkFn Tryz.prog 18 (S_impl_ComplexText R) :=
  okFn_of (good_cons ok_impl_isList_complex64 (good_cons ok_impl_joinTexts_complex64 (good_cons ok_impl_complexText good_nil))) follows Tryz.func18 rfl (by decide) (by decide) lam_nil (m := 1) (fun _ => rfl) (by decide) (fun _ _ h => nomatch h) (fun _ _ h => nomatch h) (fun x hx => ⟨40, e_impl_ComplexText R x.1 hx⟩)

set_option maxRecDepth 100000 in
theorem e_impl_readComplex (M : FOps) (a0 : ByteArray) (h : r_impl_readComplex M a0 = true) : cwp M Tryz.prog (envOf [(76, S_impl_readBits M)]) (lamOf []) 40 (Tryz.f56.body.getD .skip) 0 (retK Tryz.prog Tryz.f56.results.toList (.cons (.one (.cx .f32)) (.cons (.one .bool) .nil)) 0) (initSt (.cons (.one .str) .nil) (a0, ())) = some (F_impl_readComplex (p_impl_readComplex M a0)) := 
  Eq.trans (b := (brT ((↑a0.size : Int) != 16) (some (F_impl_readComplex ((0, 0, false)))) (brT (decide ((some 8).getD (↑a0.size : Int) ≤ (↑a0.size : Int))) (brT (r_impl_readBits M (c0_impl_readComplex M a0)) (brT (decide (Int.ofNat 8 ≤ none.getD (↑a0.size : Int)) && decide (none.getD (↑a0.size : Int) ≤ (↑a0.size : Int))) (brT (r_impl_readBits M (c1_impl_readComplex M a0)) (brT ((c2_impl_readComplex M a0).snd) (some (F_impl_readComplex (((c2_impl_readComplex M a0).fst, (c3_impl_readComplex M a0).fst, (c3_impl_readComplex M a0).snd)))) (some (F_impl_readComplex (((c2_impl_readComplex M a0).fst, (c3_impl_readComplex M a0).fst, false))))) none) none) none) none))) (by kernel_rfl)
    ((pushR (fun _ => rfl) (pushL (pushL (pushL (pushL (fun _ => (push2 rfl rfl))))))) h)
theorem ok_impl_readComplex : OkFn Tryz.prog 56 (S_impl_readComplex R) :=
  okFn_of (good_cons ok_impl_readBits good_nil) follows Tryz.func56 rfl (by decide) (by decide) lam_nil (m := 1) (fun _ => rfl) (by decide) (fun _ _ h => nomatch h) (fun _ _ h => nomatch h) (fun x hx => ⟨40, e_impl_readComplex R x.1 hx⟩)

set_option maxRecDepth 100000 in
theorem hs_impl_readTexts_complex64_k_0 (M : FOps) (v0 : Int) (v1 : (List (Nat × Nat))) (v2 : (List ByteArray)) (v3 : Int) (v4 : Int) (v5 : (List (Nat × Nat))) (v6 : Bool) : cwp M Tryz.prog (envOf [(56, S_impl_readComplex M), (102, S_strings_Split M)]) (lamOf []) 40 ((loopsOf (Tryz.f55.body.getD .skip)).getD 0 .skip) 1 (stepK (.cons (.tv 1 false (.int .i64)) (.cons (.tf 2 56) (.cons (.to 8 1 (.cx .f32)) (.cons (.to 16 0 .str) (.cons (.tv 17 false (.int .i64)) (.cons (.tv 18 false (.int .i64)) (.cons (.to 6 2 (.cx .f32)) (.cons (.tv 7 false .bool) .nil)))))))) [(.ret, (.cons (.tn 6) (.cons (.tv 7 false .bool) .nil))), ((.exit 0), (.cons (.to 8 1 (.cx .f32)) (.cons (.to 6 2 (.cx .f32)) (.cons (.tv 7 false .bool) .nil))))]) (canon (.cons (.tv 1 false (.int .i64)) (.cons (.tf 2 56) (.cons (.to 8 1 (.cx .f32)) (.cons (.to 16 0 .str) (.cons (.tv 17 false (.int .i64)) (.cons (.tv 18 false (.int .i64)) (.cons (.to 6 2 (.cx .f32)) (.cons (.tv 7 false .bool) .nil)))))))) 3 0 (v0, ((), (v1, (v2, (v3, (v4, (v5, (v6, ()))))))))) = st_impl_readTexts_complex64_k_0 M v0 v1 v2 v3 v4 v5 v6 := by
  unfold st_impl_readTexts_complex64_k_0
  kernel_rfl
set_option maxRecDepth 100000 in
theorem lk_impl_readTexts_complex64_k_0 : LOk Tryz.prog Tryz.f55.ntmps ((loopsOf (Tryz.f55.body.getD .skip)).getD 0 .skip) (L_impl_readTexts_complex64_k_0 R) :=
  lok (F := 40) (Λ := lamOf []) (b := 1) (good_cons ok_impl_readComplex (good_cons ok_strings_Split good_nil)) follows (by kernel_rfl) (fun _ _ _ _ h => nomatch h) (by decide) (by decide) (by decide) (fun x => hs_impl_readTexts_complex64_k_0 R x.1 x.2.2.1 x.2.2.2.1 x.2.2.2.2.1 x.2.2.2.2.2.1 x.2.2.2.2.2.2.1 x.2.2.2.2.2.2.2.1)
set_option maxRecDepth 100000 in
theorem e_impl_readTexts_complex64_k (M : FOps) (a0 : ByteArray) (a1 : Int) (h : r_impl_readTexts_complex64_k M a0 a1 = true) : cwp M Tryz.prog (envOf [(56, S_impl_readComplex M), (102, S_strings_Split M)]) (lamOf [(0, L_impl_readTexts_complex64_k_0 M)]) 40 (Tryz.f55.body.getD .skip) 0 (retK Tryz.prog Tryz.f55.results.toList (.cons (.one (.ls (.cx .f32))) (.cons (.one .bool) .nil)) 0) (initSt (.cons (.one .str) (.cons (.one (.int .i64)) (.cons (.fn 56 .nil) .nil))) (a0, (a1, ((), ())))) = some (F_impl_readTexts_complex64_k (p_impl_readTexts_complex64_k M a0 a1)) := 
  Eq.trans (b := (brT (a0.toList == (ByteArray.mk #[110, 111, 110, 101]).toList) (some (F_impl_readTexts_complex64_k (([], true)))) (brT (r_strings_Split M a0 (ByteArray.mk #[44])) (brT ((c0_impl_readTexts_complex64_k M a0 a1).length.beq (c0_impl_readTexts_complex64_k M a0 a1).length && true) (brT ((c1_impl_readTexts_complex64_k M a0 a1).isSome) (brT (isL ((c1_impl_readTexts_complex64_k M a0 a1).getD (Sum.inl ((), false, ())))) (some (F_impl_readTexts_complex64_k (([], (getL ((), false, ()) ((c1_impl_readTexts_complex64_k M a0 a1).getD (Sum.inl ((), false, ())))).snd.fst)))) (brT ((List.length (getR ([], [], false, ()) ((c1_impl_readTexts_complex64_k M a0 a1).getD (Sum.inl ((), false, ())))).fst).beq (List.length (getR ([], [], false, ()) ((c1_impl_readTexts_complex64_k M a0 a1).getD (Sum.inl ((), false, ())))).fst) && true) (some (F_impl_readTexts_complex64_k (((getR ([], [], false, ()) ((c1_impl_readTexts_complex64_k M a0 a1).getD (Sum.inl ((), false, ())))).fst, true)))) none)) none) none) none))) (by kernel_rfl)
    ((pushR (fun _ => rfl) (pushL (pushL (pushL (pushR (fun _ => rfl) (pushL (fun _ => rfl))))))) h)
theorem ok_impl_readTexts_complex64_k : OkFn Tryz.prog 55 (S_impl_readTexts_complex64_k R) :=
  okFn_of (good_cons ok_impl_readComplex (good_cons ok_strings_Split good_nil)) follows Tryz.func55 rfl (by decide) (by decide) (lam_cons (i := 0) (cc := (loopsOf (Tryz.f55.body.getD .skip)).getD 0 .skip) (by kernel_rfl) lk_impl_readTexts_complex64_k_0 lam_nil) (m := 3) (fun _ => rfl) (by decide) (fun _ _ h => nomatch h) (fun y c h => by simp [encR, encC] at h; first | (subst h; exact ⟨_, _, rfl⟩) | (rcases h with rfl | rfl <;> exact ⟨_, _, rfl⟩) | (rcases h with rfl | rfl | rfl <;> exact ⟨_, _, rfl⟩)) (fun x hx => ⟨40, e_impl_readTexts_complex64_k R x.1 x.2.1 hx⟩)

set_option maxRecDepth 100000 in
theorem e_impl_ReadComplex (M : FOps) (a0 : ByteArray) (h : r_impl_ReadComplex M a0 = true) : cwp M Tryz.prog (envOf [(55, S_impl_readTexts_complex64_k M), (56, S_impl_readComplex M)]) (lamOf []) 40 (Tryz.f19.body.getD .skip) 0 (retK Tryz.prog Tryz.f19.results.toList (.cons (.one (.ls (.cx .f32))) (.cons (.one .bool) .nil)) 0) (initSt (.cons (.one .str) .nil) (a0, ())) = some (F_impl_ReadComplex (p_impl_ReadComplex M a0)) := 
  Eq.trans (b := (brT (r_impl_readTexts_complex64_k M a0 256) (brT ((c0_impl_ReadComplex M a0).fst.length.beq (c0_impl_ReadComplex M a0).fst.length && true) (some (F_impl_ReadComplex (((c0_impl_ReadComplex M a0).fst, (c0_impl_ReadComplex M a0).snd)))) none) none)) (by kernel_rfl)
    ((pushL (pushL (fun _ => rfl))) h)
theorem ok_impl_ReadComplex : OkFn Tryz.prog 19 (S_impl_ReadComplex R) :=
  okFn_of (good_cons ok_impl_readTexts_complex64_k (good_cons ok_impl_readComplex good_nil)) follows Tryz.func19 rfl (by decide) (by decide) lam_nil (m := 1) (fun _ => rfl) (by decide) (fun _ _ h => nomatch h) (fun y c h => by simp [encR, encC] at h; first | (subst h; exact ⟨_, _, rfl⟩) | (rcases h with rfl | rfl <;> exact ⟨_, _, rfl⟩) | (rcases h with rfl | rfl | rfl <;> exact ⟨_, _, rfl⟩)) (fun x hx => ⟨40, e_impl_ReadComplex R x.1 hx⟩)

set_option maxRecDepth 100000 in
theorem e_spec_l01CSame (M : FOps) (a0_0 : Nat) (a0_1 : Nat) (a1_0 : Nat) (a1_1 : Nat) (h : r_spec_l01CSame M a0_0 a0_1 a1_0 a1_1 = true) : cwp M Tryz.prog (envOf [(48, S_spec_l01Same M)]) (lamOf []) 40 (Tryz.f105.body.getD .skip) 0 (retK Tryz.prog Tryz.f105.results.toList (.cons (.one .bool) .nil) 0) (initSt (.cons (.one (.cx .f32)) (.cons (.one (.cx .f32)) .nil)) ((a0_0, a0_1), ((a1_0, a1_1), ()))) = some (F_spec_l01CSame (p_spec_l01CSame M a0_0 a0_1 a1_0 a1_1)) := 
  Eq.trans (b := (brT (r_spec_l01Same M a0_0 a1_0) (brT (p_spec_l01Same M a0_0 a1_0) (brT (r_spec_l01Same M a0_1 a1_1) (some (F_spec_l01CSame (p_spec_l01Same M a0_1 a1_1))) none) (some (F_spec_l01CSame (false)))) none)) (by kernel_rfl)
    ((pushL (pushR (pushL (fun _ => rfl)) (fun _ => rfl))) h)
theorem ok_spec_l01CSame : OkFn Tryz.prog 105 (S_spec_l01CSame R) :=
  okFn_of (good_cons ok_spec_l01Same good_nil) follows Tryz.func105 rfl (by decide) (by decide) lam_nil (m := 2) (fun _ => rfl) (by decide) (fun _ _ h => nomatch h) (fun _ _ h => nomatch h) (fun x hx => ⟨40, e_spec_l01CSame R x.1.1 x.1.2 x.2.1.1 x.2.1.2 hx⟩)

set_option maxRecDepth 100000 in
theorem e_spec_SameComplex (M : FOps) (a0_0 : Nat) (a0_1 : Nat) (a1_0 : Nat) (a1_1 : Nat) (h : r_spec_SameComplex M a0_0 a0_1 a1_0 a1_1 = true) : cwp M Tryz.prog (envOf [(105, S_spec_l01CSame M)]) (lamOf []) 40 (Tryz.f65.body.getD .skip) 0 (retK Tryz.prog Tryz.f65.results.toList (.cons (.one .bool) .nil) 0) (initSt (.cons (.one (.cx .f32)) (.cons (.one (.cx .f32)) .nil)) ((a0_0, a0_1), ((a1_0, a1_1), ()))) = some (F_spec_SameComplex (p_spec_SameComplex M a0_0 a0_1 a1_0 a1_1)) := 
  Eq.trans (b := (brT (r_spec_l01CSame M a0_0 a0_1 a1_0 a1_1) (some (F_spec_SameComplex (p_spec_l01CSame M a0_0 a0_1 a1_0 a1_1))) none)) (by kernel_rfl)
    ((pushL (fun _ => rfl)) h)
theorem ok_spec_SameComplex : OkFn Tryz.prog 65 (S_spec_SameComplex R) :=
  okFn_of (good_cons ok_spec_l01CSame good_nil) follows Tryz.func65 rfl (by decide) (by decide) lam_nil (m := 2) (fun _ => rfl) (by decide) (fun _ _ h => nomatch h) (fun _ _ h => nomatch h) (fun x hx => ⟨40, e_spec_SameComplex R x.1.1 x.1.2 x.2.1.1 x.2.1.2 hx⟩)

set_option maxRecDepth 100000 in
theorem hs_laws_b10Same_0 (M : FOps) (v0 : (List (Nat × Nat))) (v1 : (List (Nat × Nat))) (v2 : Int) (v3 : Int) (v4 : Bool) : cwp M Tryz.prog (envOf [(65, S_spec_SameComplex M)]) (lamOf []) 40 ((loopsOf (Tryz.f24.body.getD .skip)).getD 0 .skip) 1 (stepK (.cons (.tv 0 true (.ls (.cx .f32))) (.cons (.tv 1 true (.ls (.cx .f32))) (.cons (.tv 12 false (.int .i64)) (.cons (.tv 13 false (.int .i64)) (.cons (.tv 4 false .bool) .nil))))) [(.ret, (.cons (.tv 4 false .bool) .nil)), ((.exit 0), (.cons (.tv 4 false .bool) .nil))]) (canon (.cons (.tv 0 true (.ls (.cx .f32))) (.cons (.tv 1 true (.ls (.cx .f32))) (.cons (.tv 12 false (.int .i64)) (.cons (.tv 13 false (.int .i64)) (.cons (.tv 4 false .bool) .nil))))) 0 0 (v0, (v1, (v2, (v3, (v4, ())))))) = st_laws_b10Same_0 M v0 v1 v2 v3 v4 := by
  unfold st_laws_b10Same_0
  kernel_rfl
set_option maxRecDepth 100000 in
theorem lk_laws_b10Same_0 : LOk Tryz.prog Tryz.f24.ntmps ((loopsOf (Tryz.f24.body.getD .skip)).getD 0 .skip) (L_laws_b10Same_0 R) :=
  lok (F := 40) (Λ := lamOf []) (b := 1) (good_cons ok_spec_SameComplex good_nil) follows (by kernel_rfl) (fun _ _ _ _ h => nomatch h) (by decide) (by decide) (by decide) (fun x => hs_laws_b10Same_0 R x.1 x.2.1 x.2.2.1 x.2.2.2.1 x.2.2.2.2.1)
set_option maxRecDepth 100000 in
theorem e_laws_b10Same (M : FOps) (a0 : (List (Nat × Nat))) (a1 : (List (Nat × Nat))) (h : r_laws_b10Same M a0 a1 = true) : cwp M Tryz.prog (envOf [(65, S_spec_SameComplex M)]) (lamOf [(0, L_laws_b10Same_0 M)]) 40 (Tryz.f24.body.getD .skip) 0 (retK Tryz.prog Tryz.f24.results.toList (.cons (.one .bool) .nil) 0) (initSt (.cons (.one (.ls (.cx .f32))) (.cons (.one (.ls (.cx .f32))) .nil)) (a0, (a1, ()))) = some (F_laws_b10Same (p_laws_b10Same M a0 a1)) := 
  Eq.trans (b := (brT ((↑a0.length : Int) != (↑a1.length : Int)) (some (F_laws_b10Same (false))) (brT ((c0_laws_b10Same M a0 a1).isSome) (brT (isL ((c0_laws_b10Same M a0 a1).getD (Sum.inl (false, ())))) (some (F_laws_b10Same ((getL (false, ()) ((c0_laws_b10Same M a0 a1).getD (Sum.inl (false, ())))).fst))) (some (F_laws_b10Same (true)))) none))) (by kernel_rfl)
    ((pushR (fun _ => rfl) (pushL (fun _ => (push2 rfl rfl)))) h)
theorem ok_laws_b10Same : OkFn Tryz.prog 24 (S_laws_b10Same R) :=
  okFn_of (good_cons ok_spec_SameComplex good_nil) follows Tryz.func24 rfl (by decide) (by decide) (lam_cons (i := 0) (cc := (loopsOf (Tryz.f24.body.getD .skip)).getD 0 .skip) (by kernel_rfl) lk_laws_b10Same_0 lam_nil) (m := 2) (fun _ => rfl) (by decide) (fun _ _ h => nomatch h) (fun _ _ h => nomatch h) (fun x hx => ⟨40, e_laws_b10Same R x.1 x.2.1 hx⟩)

set_option maxRecDepth 100000 in
theorem e_impl_NarrowComplex (M : FOps) (a0_0 : Nat) (a0_1 : Nat) (h : r_impl_NarrowComplex M a0_0 a0_1 = true) : cwp M Tryz.prog (envOf []) (lamOf []) 40 (Tryz.f26.body.getD .skip) 0 (retK Tryz.prog Tryz.f26.results.toList (.cons (.one (.cx .f32)) .nil) 0) (initSt (.cons (.one (.cx .f64)) .nil) ((a0_0, a0_1), ())) = some (F_impl_NarrowComplex (p_impl_NarrowComplex M a0_0 a0_1)) := 
  Eq.trans (b := (brT (M.narOk a0_0) (brT (M.narOk a0_1) (some (F_impl_NarrowComplex ((M.nar a0_0, M.nar a0_1)))) none) none)) (by kernel_rfl)
    ((pushL (pushL (fun _ => rfl))) h)
theorem ok_impl_NarrowComplex : OkFn Tryz.prog 26 (S_impl_NarrowComplex R) :=
  okFn_of good_nil follows Tryz.func26 rfl (by decide) (by decide) lam_nil (m := 1) (fun _ => rfl) (by decide) (fun _ _ h => nomatch h) (fun _ _ h => nomatch h) (fun x hx => ⟨40, e_impl_NarrowComplex R x.1.1 x.1.2 hx⟩)

set_option maxRecDepth 100000 in
theorem e_impl_SameComplex (M : FOps) (a0_0 : Nat) (a0_1 : Nat) (a1_0 : Nat) (a1_1 : Nat) (h : r_impl_SameComplex M a0_0 a0_1 a1_0 a1_1 = true) : cwp M Tryz.prog (envOf [(66, S_impl_SameNumber M)]) (lamOf []) 40 (Tryz.f25.body.getD .skip) 0 (retK Tryz.prog Tryz.f25.results.toList (.cons (.one .bool) .nil) 0) (initSt (.cons (.one (.cx .f32)) (.cons (.one (.cx .f32)) .nil)) ((a0_0, a0_1), ((a1_0, a1_1), ()))) = some (F_impl_SameComplex (p_impl_SameComplex M a0_0 a0_1 a1_0 a1_1)) := 
  Eq.trans (b := (brT (r_impl_SameNumber M a0_0 a1_0) (brT (p_impl_SameNumber M a0_0 a1_0) (brT (r_impl_SameNumber M a0_1 a1_1) (some (F_impl_SameComplex (p_impl_SameNumber M a0_1 a1_1))) none) (some (F_impl_SameComplex (false)))) none)) (by kernel_rfl)
    ((pushL (pushR (pushL (fun _ => rfl)) (fun _ => rfl))) h)
theorem ok_impl_SameComplex : OkFn Tryz.prog 25 (S_impl_SameComplex R) :=
  okFn_of (good_cons ok_impl_SameNumber good_nil) follows Tryz.func25 rfl (by decide) (by decide) lam_nil (m := 2) (fun _ => rfl) (by decide) (fun _ _ h => nomatch h) (fun _ _ h => nomatch h) (fun x hx => ⟨40, e_impl_SameComplex R x.1.1 x.1.2 x.2.1.1 x.2.1.2 hx⟩)

set_option maxRecDepth 100000 in
theorem e_impl_IsFiniteComplex (M : FOps) (a0_0 : Nat) (a0_1 : Nat) : cwp M Tryz.prog (envOf [(67, S_impl_IsFinite M)]) (lamOf []) 40 (Tryz.f27.body.getD .skip) 0 (retK Tryz.prog Tryz.f27.results.toList (.cons (.one .bool) .nil) 0) (initSt (.cons (.one (.cx .f32)) .nil) ((a0_0, a0_1), ())) = some (F_impl_IsFiniteComplex (p_impl_IsFiniteComplex M a0_0 a0_1)) := 
  Eq.trans (b := (brT (p_impl_IsFinite M a0_0) (some (F_impl_IsFiniteComplex (p_impl_IsFinite M a0_1))) (some (F_impl_IsFiniteComplex (false))))) (by kernel_rfl)
    ((push2 rfl rfl))
theorem ok_impl_IsFiniteComplex : OkFn Tryz.prog 27 (S_impl_IsFiniteComplex R) :=
  okFn_of (good_cons ok_impl_IsFinite good_nil) follows Tryz.func27 rfl (by decide) (by decide) lam_nil (m := 1) (fun _ => rfl) (by decide) (fun _ _ h => nomatch h) (fun _ _ h => nomatch h) (fun x _ => ⟨40, e_impl_IsFiniteComplex R x.1.1 x.1.2⟩)

set_option maxRecDepth 100000 in
theorem e_spec_IsFinite (M : FOps) (a0 : Nat) : cwp M Tryz.prog (envOf [(68, S_spec_l01Finite M)]) (lamOf []) 40 (Tryz.f28.body.getD .skip) 0 (retK Tryz.prog Tryz.f28.results.toList (.cons (.one .bool) .nil) 0) (initSt (.cons (.one (.fl .f32)) .nil) (a0, ())) = some (F_spec_IsFinite (p_spec_IsFinite M a0)) := by kernel_rfl
theorem ok_spec_IsFinite : OkFn Tryz.prog 28 (S_spec_IsFinite R) :=
  okFn_of (good_cons ok_spec_l01Finite good_nil) follows Tryz.func28 rfl (by decide) (by decide) lam_nil (m := 1) (fun _ => rfl) (by decide) (fun _ _ h => nomatch h) (fun _ _ h => nomatch h) (fun x _ => ⟨40, e_spec_IsFinite R x.1⟩)

set_option maxRecDepth 100000 in
theorem e_spec_RootNumber (M : FOps) (a0 : Nat) : cwp M Tryz.prog (envOf [(50, S_spec_l01Sqrt M)]) (lamOf []) 40 (Tryz.f13.body.getD .skip) 0 (retK Tryz.prog Tryz.f13.results.toList (.cons (.one (.fl .f32)) .nil) 0) (initSt (.cons (.one (.fl .f32)) .nil) (a0, ())) = some (F_spec_RootNumber (p_spec_RootNumber M a0)) := by kernel_rfl
theorem ok_spec_RootNumber : OkFn Tryz.prog 13 (S_spec_RootNumber R) :=
  okFn_of (good_cons ok_spec_l01Sqrt good_nil) follows Tryz.func13 rfl (by decide) (by decide) lam_nil (m := 1) (fun _ => rfl) (by decide) (fun _ _ h => nomatch h) (fun _ _ h => nomatch h) (fun x _ => ⟨40, e_spec_RootNumber R x.1⟩)

end Go.Proofs.YtjohfkfpfjdceaaGreatDoor
