/- Printed by gen2.py. -/
import Derived.Test.YtggaemodkekeeaaWna
import Derived.Test.YtggaemodkekeeaaLlf
import Derived.Test.YtggaemodkekeeaaYm
import Derived.Test.YtggaemodkekeeaaZkc
import Derived.Test.YtggaemodkekeeaaDt
import Derived.Test.YtggaemodkekeeaaYg
import Derived.Test.YtggaemodkekeeaaDs
import Derived.Test.YtggaemodkekeeaaZt

set_option linter.unusedVariables false
set_option linter.unusedSimpArgs false

-- GENERATED BELOW (gen.py)
namespace Go.Proofs.Ytggaemodkekeeaa
open Go Go.Cv Go.Dv
set_option maxRecDepth 100000 in
theorem e_math_bits_Mul32 (M : FOps) (a0 : Int) (a1 : Int) : cwp M Try.prog (envOf []) (lamOf []) 40 (Try.f94.body.getD .skip) 0 (retK Try.prog Try.f94.results.toList (.cons (.one (.int .u32)) (.cons (.one (.int .u32)) .nil)) 0) (initSt (.cons (.one (.int .u32)) (.cons (.one (.int .u32)) .nil)) (a0, (a1, ()))) = some (F_math_bits_Mul32 (p_math_bits_Mul32 M a0 a1)) := by kernel_rfl
theorem ok_math_bits_Mul32 : OkFn Try.prog 94 (S_math_bits_Mul32 R) :=
  okFn_of good_nil follows Try.func94 rfl (by decide) (by decide) lam_nil (m := 2) (fun _ => rfl) (by decide) (fun _ _ h => nomatch h) (fun _ _ h => nomatch h) (fun x _ => ⟨40, e_math_bits_Mul32 R x.1 x.2.1⟩)

set_option maxRecDepth 100000 in
theorem e_math_bits_Mul64 (M : FOps) (a0 : Int) (a1 : Int) : cwp M Try.prog (envOf []) (lamOf []) 40 (Try.f95.body.getD .skip) 0 (retK Try.prog Try.f95.results.toList (.cons (.one (.int .u64)) (.cons (.one (.int .u64)) .nil)) 0) (initSt (.cons (.one (.int .u64)) (.cons (.one (.int .u64)) .nil)) (a0, (a1, ()))) = some (F_math_bits_Mul64 (p_math_bits_Mul64 M a0 a1)) := by kernel_rfl
theorem ok_math_bits_Mul64 : OkFn Try.prog 95 (S_math_bits_Mul64 R) :=
  okFn_of good_nil follows Try.func95 rfl (by decide) (by decide) lam_nil (m := 2) (fun _ => rfl) (by decide) (fun _ _ h => nomatch h) (fun _ _ h => nomatch h) (fun x _ => ⟨40, e_math_bits_Mul64 R x.1 x.2.1⟩)

set_option maxRecDepth 100000 in
theorem e_math_bits_Mul (M : FOps) (a0 : Int) (a1 : Int) : cwp M Try.prog (envOf [(94, S_math_bits_Mul32 M), (95, S_math_bits_Mul64 M)]) (lamOf []) 40 (Try.f77.body.getD .skip) 0 (retK Try.prog Try.f77.results.toList (.cons (.one (.int .u64)) (.cons (.one (.int .u64)) .nil)) 0) (initSt (.cons (.one (.int .u64)) (.cons (.one (.int .u64)) .nil)) (a0, (a1, ()))) = some (F_math_bits_Mul (p_math_bits_Mul M a0 a1)) := by kernel_rfl
theorem ok_math_bits_Mul : OkFn Try.prog 77 (S_math_bits_Mul R) :=
  okFn_of (good_cons ok_math_bits_Mul32 (good_cons ok_math_bits_Mul64 good_nil)) follows Try.func77 rfl (by decide) (by decide) lam_nil (m := 2) (fun _ => rfl) (by decide) (fun _ _ h => nomatch h) (fun _ _ h => nomatch h) (fun x _ => ⟨40, e_math_bits_Mul R x.1 x.2.1⟩)

set_option maxRecDepth 100000 in
theorem hs_slices_Repeat_int64_int64_0 (M : FOps) (v0 : (List Int)) (v1 : Int) : cwp M Try.prog (envOf [(77, S_math_bits_Mul M)]) (lamOf []) 40 ((loopsOf (Try.f57.body.getD .skip)).getD 0 .skip) 1 (stepK (.cons (.to 7 0 (.int .i64)) (.cons (.tv 8 false (.int .i64)) (.cons (.tn 4) .nil))) [((.exit 0), (.cons (.to 7 0 (.int .i64)) (.cons (.tn 4) .nil)))]) (canon (.cons (.to 7 0 (.int .i64)) (.cons (.tv 8 false (.int .i64)) (.cons (.tn 4) .nil))) 1 0 (v0, (v1, ((), ())))) = st_slices_Repeat_int64_int64_0 M v0 v1 := by
  unfold st_slices_Repeat_int64_int64_0
  kernel_rfl
set_option maxRecDepth 100000 in
theorem lk_slices_Repeat_int64_int64_0 : LOk Try.prog Try.f57.ntmps ((loopsOf (Try.f57.body.getD .skip)).getD 0 .skip) (L_slices_Repeat_int64_int64_0 R) :=
  lok (F := 40) (Λ := lamOf []) (b := 1) (good_cons ok_math_bits_Mul good_nil) follows (by kernel_rfl) (fun _ _ _ _ h => nomatch h) (by decide) (by decide) (by decide) (fun x => hs_slices_Repeat_int64_int64_0 R x.1 x.2.1)
set_option maxRecDepth 100000 in
theorem e_slices_Repeat_int64_int64 (M : FOps) (a0 : (List Int)) (a1 : Int) (h : r_slices_Repeat_int64_int64 M a0 a1 = true) : cwp M Try.prog (envOf [(77, S_math_bits_Mul M)]) (lamOf [(0, L_slices_Repeat_int64_int64_0 M)]) 40 (Try.f57.body.getD .skip) 0 (retK Try.prog Try.f57.results.toList (.cons (.one (.ls (.int .i64))) .nil) 0) (initSt (.cons (.one (.ls (.int .i64))) (.cons (.one (.int .i64)) .nil)) (a0, (a1, ()))) = some (F_slices_Repeat_int64_int64 (p_slices_Repeat_int64_int64 M a0 a1)) := 
  Eq.trans (b := (brT (decide (a1 < 0)) none (brT (decide ((c0_slices_Repeat_int64_int64 M a0 a1).1 > 0)) none (brT (decide ((c0_slices_Repeat_int64_int64 M a0 a1).2 > 9223372036854775807)) none (brT (decide (0 ≤ IntKind.i64.wrap (c0_slices_Repeat_int64_int64 M a0 a1).2) && decide (IntKind.i64.wrap (c0_slices_Repeat_int64_int64 M a0 a1).2 ≤ IntKind.i64.wrap (c0_slices_Repeat_int64_int64 M a0 a1).2) && decide (IntKind.i64.wrap (c0_slices_Repeat_int64_int64 M a0 a1).2 ≤ Int.ofNat 1073741824)) (brT ((List.replicate (IntKind.i64.wrap (c0_slices_Repeat_int64_int64 M a0 a1).2).toNat (0 : Int)).length.beq (List.replicate (IntKind.i64.wrap (c0_slices_Repeat_int64_int64 M a0 a1).2).toNat (0 : Int)).length && true) (brT ((List.replicate (IntKind.i64.wrap (c0_slices_Repeat_int64_int64 M a0 a1).2).toNat (0 : Int)).length.beq (List.take 0 (List.replicate (IntKind.i64.wrap (c0_slices_Repeat_int64_int64 M a0 a1).2).toNat (0 : Int)) ++ List.take (a0.length.min (List.replicate (IntKind.i64.wrap (c0_slices_Repeat_int64_int64 M a0 a1).2).toNat (0 : Int)).length) a0 ++ List.drop (0 + a0.length.min (List.replicate (IntKind.i64.wrap (c0_slices_Repeat_int64_int64 M a0 a1).2).toNat (0 : Int)).length) (List.replicate (IntKind.i64.wrap (c0_slices_Repeat_int64_int64 M a0 a1).2).toNat (0 : Int))).length && true) (brT ((c1_slices_Repeat_int64_int64 M a0 a1).isSome) (brT ((List.length ((c1_slices_Repeat_int64_int64 M a0 a1).getD ([], (), ())).1).beq (List.length ((c1_slices_Repeat_int64_int64 M a0 a1).getD ([], (), ())).1) && true) (some (F_slices_Repeat_int64_int64 (((c1_slices_Repeat_int64_int64 M a0 a1).getD ([], (), ())).1))) none) none) none) none) none))))) (by kernel_rfl)
    ((pushN (pushN (pushN (pushL (pushL (pushL (pushL (pushL (fun _ => rfl))))))))) h)
theorem ok_slices_Repeat_int64_int64 : OkFn Try.prog 57 (S_slices_Repeat_int64_int64 R) :=
  okFn_of (good_cons ok_math_bits_Mul good_nil) follows Try.func57 rfl (by decide) (by decide) (lam_cons (i := 0) (cc := (loopsOf (Try.f57.body.getD .skip)).getD 0 .skip) (by kernel_rfl) lk_slices_Repeat_int64_int64_0 lam_nil) (m := 2) (fun _ => rfl) (by decide) (fun _ _ h => nomatch h) (fun y c h => by simp [encR, encC] at h; first | (subst h; exact ⟨_, _, rfl⟩) | (rcases h with rfl | rfl <;> exact ⟨_, _, rfl⟩) | (rcases h with rfl | rfl | rfl <;> exact ⟨_, _, rfl⟩)) (fun x hx => ⟨40, e_slices_Repeat_int64_int64 R x.1 x.2.1 hx⟩)

set_option maxRecDepth 100000 in
theorem hs_slices_Min_int64_int64_0 (M : FOps) (v0 : (List Int)) (v1 : Int) (v2 : Int) (v3 : Int) : cwp M Try.prog (envOf []) (lamOf []) 40 ((loopsOf (Try.f40.body.getD .skip)).getD 0 .skip) 1 (stepK (.cons (.tv 0 true (.ls (.int .i64))) (.cons (.tv 3 false (.int .i64)) (.cons (.tv 4 false (.int .i64)) (.cons (.tv 2 false (.int .i64)) .nil)))) [((.exit 0), (.cons (.tv 3 false (.int .i64)) (.cons (.tv 2 false (.int .i64)) .nil)))]) (canon (.cons (.tv 0 true (.ls (.int .i64))) (.cons (.tv 3 false (.int .i64)) (.cons (.tv 4 false (.int .i64)) (.cons (.tv 2 false (.int .i64)) .nil)))) 0 0 (v0, (v1, (v2, (v3, ()))))) = st_slices_Min_int64_int64_0 M v0 v1 v2 v3 := by
  unfold st_slices_Min_int64_int64_0
  kernel_rfl
set_option maxRecDepth 100000 in
theorem lk_slices_Min_int64_int64_0 : LOk Try.prog Try.f40.ntmps ((loopsOf (Try.f40.body.getD .skip)).getD 0 .skip) (L_slices_Min_int64_int64_0 R) :=
  lok (F := 40) (Λ := lamOf []) (b := 1) good_nil follows (by kernel_rfl) (fun _ _ _ _ h => nomatch h) (by decide) (by decide) (by decide) (fun x => hs_slices_Min_int64_int64_0 R x.1 x.2.1 x.2.2.1 x.2.2.2.1)
set_option maxRecDepth 100000 in
theorem e_slices_Min_int64_int64 (M : FOps) (a0 : (List Int)) (h : r_slices_Min_int64_int64 M a0 = true) : cwp M Try.prog (envOf []) (lamOf [(0, L_slices_Min_int64_int64_0 M)]) 40 (Try.f40.body.getD .skip) 0 (retK Try.prog Try.f40.results.toList (.cons (.one (.int .i64)) .nil) 0) (initSt (.cons (.one (.ls (.int .i64))) .nil) (a0, ())) = some (F_slices_Min_int64_int64 (p_slices_Min_int64_int64 M a0)) := 
  Eq.trans (b := (brT (decide ((↑a0.length : Int) < 1)) none (brT (decide (0 < (↑a0.length : Int))) (brT ((c0_slices_Min_int64_int64 M a0).isSome) (some (F_slices_Min_int64_int64 (((c0_slices_Min_int64_int64 M a0).getD (0, 0, ())).1))) none) none))) (by kernel_rfl)
    ((pushN (pushL (pushL (fun _ => rfl)))) h)
theorem ok_slices_Min_int64_int64 : OkFn Try.prog 40 (S_slices_Min_int64_int64 R) :=
  okFn_of good_nil follows Try.func40 rfl (by decide) (by decide) (lam_cons (i := 0) (cc := (loopsOf (Try.f40.body.getD .skip)).getD 0 .skip) (by kernel_rfl) lk_slices_Min_int64_int64_0 lam_nil) (m := 1) (fun _ => rfl) (by decide) (fun _ _ h => nomatch h) (fun _ _ h => nomatch h) (fun x hx => ⟨40, e_slices_Min_int64_int64 R x.1 hx⟩)

set_option maxRecDepth 100000 in
theorem hs_slices_Index_int64_int64_0 (M : FOps) (v0 : (List Int)) (v1 : Int) (v2 : Int) (v3 : Int) (v4 : Int) : cwp M Try.prog (envOf []) (lamOf []) 40 ((loopsOf (Try.f39.body.getD .skip)).getD 0 .skip) 1 (stepK (.cons (.tv 0 true (.ls (.int .i64))) (.cons (.tv 1 false (.int .i64)) (.cons (.tv 7 false (.int .i64)) (.cons (.tv 8 false (.int .i64)) (.cons (.tv 4 false (.int .i64)) .nil))))) [(.ret, (.cons (.tv 4 false (.int .i64)) .nil)), ((.exit 0), (.cons (.tv 4 false (.int .i64)) .nil))]) (canon (.cons (.tv 0 true (.ls (.int .i64))) (.cons (.tv 1 false (.int .i64)) (.cons (.tv 7 false (.int .i64)) (.cons (.tv 8 false (.int .i64)) (.cons (.tv 4 false (.int .i64)) .nil))))) 0 0 (v0, (v1, (v2, (v3, (v4, ())))))) = st_slices_Index_int64_int64_0 M v0 v1 v2 v3 v4 := by
  unfold st_slices_Index_int64_int64_0
  kernel_rfl
set_option maxRecDepth 100000 in
theorem lk_slices_Index_int64_int64_0 : LOk Try.prog Try.f39.ntmps ((loopsOf (Try.f39.body.getD .skip)).getD 0 .skip) (L_slices_Index_int64_int64_0 R) :=
  lok (F := 40) (Λ := lamOf []) (b := 1) good_nil follows (by kernel_rfl) (fun _ _ _ _ h => nomatch h) (by decide) (by decide) (by decide) (fun x => hs_slices_Index_int64_int64_0 R x.1 x.2.1 x.2.2.1 x.2.2.2.1 x.2.2.2.2.1)
set_option maxRecDepth 100000 in
theorem e_slices_Index_int64_int64 (M : FOps) (a0 : (List Int)) (a1 : Int) (h : r_slices_Index_int64_int64 M a0 a1 = true) : cwp M Try.prog (envOf []) (lamOf [(0, L_slices_Index_int64_int64_0 M)]) 40 (Try.f39.body.getD .skip) 0 (retK Try.prog Try.f39.results.toList (.cons (.one (.int .i64)) .nil) 0) (initSt (.cons (.one (.ls (.int .i64))) (.cons (.one (.int .i64)) .nil)) (a0, (a1, ()))) = some (F_slices_Index_int64_int64 (p_slices_Index_int64_int64 M a0 a1)) := 
  Eq.trans (b := (brT ((c0_slices_Index_int64_int64 M a0 a1).isSome) (brT (isL ((c0_slices_Index_int64_int64 M a0 a1).getD (Sum.inl (0, ())))) (some (F_slices_Index_int64_int64 ((getL (0, ()) ((c0_slices_Index_int64_int64 M a0 a1).getD (Sum.inl (0, ())))).1))) (some (F_slices_Index_int64_int64 (Int.negSucc 0)))) none)) (by kernel_rfl)
    ((pushL (fun _ => (push2 rfl rfl))) h)
theorem ok_slices_Index_int64_int64 : OkFn Try.prog 39 (S_slices_Index_int64_int64 R) :=
  okFn_of good_nil follows Try.func39 rfl (by decide) (by decide) (lam_cons (i := 0) (cc := (loopsOf (Try.f39.body.getD .skip)).getD 0 .skip) (by kernel_rfl) lk_slices_Index_int64_int64_0 lam_nil) (m := 2) (fun _ => rfl) (by decide) (fun _ _ h => nomatch h) (fun _ _ h => nomatch h) (fun x hx => ⟨40, e_slices_Index_int64_int64 R x.1 x.2.1 hx⟩)

end Go.Proofs.Ytggaemodkekeeaa
