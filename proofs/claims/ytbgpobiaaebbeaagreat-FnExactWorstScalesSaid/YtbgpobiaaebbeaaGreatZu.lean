/- Printed by gen2.py. -/
import Derived.Test.YtbgpobiaaebbeaaGreatWu
import Derived.Test.YtbgpobiaaebbeaaGreatZr
import Derived.Test.YtbgpobiaaebbeaaGreatZf
import Derived.Test.YtbgpobiaaebbeaaGreatYt
set_option linter.unusedVariables false
set_option linter.unusedSimpArgs false

-- GENERATED BELOW (gen.py)
namespace Go.Proofs.YtbgpobiaaebbeaaGreat
open Go Go.Cv Go.Dv
set_option maxRecDepth 100000 in
theorem hs_impl_axes_0 (M : FOps) (v0 : Int) (v1 : Nat) (v2 : Nat) (v3 : Nat) (v4 : (List Nat)) (v5 : (List (Nat × Nat))) (v6 : Int) (v7 : Int) (v8 : (List Nat)) (v9 : Bool) : cwp M Tryz.prog (envOf [(74, S_impl_AxesAt M), (73, S_impl_ArePlaces M)]) (lamOf []) 40 ((loopsOf (Tryz.f41.body.getD .skip)).getD 0 .skip) 1 (stepK (.cons (.tp 2 0 0) (.cons (.bx 0 0 false (.int .i64)) (.cons (.bx 0 1 false (.fl .f32)) (.cons (.bx 0 2 false (.fl .f32)) (.cons (.bx 0 3 false (.fl .f32)) (.cons (.to 6 1 (.fl .f32)) (.cons (.tv 16 true (.ls (.pair (.fl .f32) (.fl .f32)))) (.cons (.tv 17 false (.int .i64)) (.cons (.tv 18 false (.int .i64)) (.cons (.to 4 2 (.fl .f32)) (.cons (.tv 5 false .bool) .nil))))))))))) [(.ret, (.cons (.tn 4) (.cons (.tv 5 false .bool) .nil))), ((.exit 0), (.cons (.to 6 1 (.fl .f32)) (.cons (.to 4 2 (.fl .f32)) (.cons (.tv 5 false .bool) .nil))))]) (canon (.cons (.tp 2 0 0) (.cons (.bx 0 0 false (.int .i64)) (.cons (.bx 0 1 false (.fl .f32)) (.cons (.bx 0 2 false (.fl .f32)) (.cons (.bx 0 3 false (.fl .f32)) (.cons (.to 6 1 (.fl .f32)) (.cons (.tv 16 true (.ls (.pair (.fl .f32) (.fl .f32)))) (.cons (.tv 17 false (.int .i64)) (.cons (.tv 18 false (.int .i64)) (.cons (.to 4 2 (.fl .f32)) (.cons (.tv 5 false .bool) .nil))))))))))) 3 0 ((), (v0, (v1, (v2, (v3, (v4, (v5, (v6, (v7, (v8, (v9, ())))))))))))) = st_impl_axes_0 M v0 v1 v2 v3 v4 v5 v6 v7 v8 v9 := by
  unfold st_impl_axes_0
  kernel_rfl
set_option maxRecDepth 100000 in
theorem lk_impl_axes_0 : LOk Tryz.prog Tryz.f41.ntmps ((loopsOf (Tryz.f41.body.getD .skip)).getD 0 .skip) (L_impl_axes_0 R) :=
  lok (F := 40) (Λ := lamOf []) (b := 1) (good_cons ok_impl_AxesAt (good_cons ok_impl_ArePlaces good_nil)) follows (by kernel_rfl) (fun _ _ _ _ h => nomatch h) (by decide) (by decide) (by decide) (fun x => hs_impl_axes_0 R x.2.1 x.2.2.1 x.2.2.2.1 x.2.2.2.2.1 x.2.2.2.2.2.1 x.2.2.2.2.2.2.1 x.2.2.2.2.2.2.2.1 x.2.2.2.2.2.2.2.2.1 x.2.2.2.2.2.2.2.2.2.1 x.2.2.2.2.2.2.2.2.2.2.1)
set_option maxRecDepth 100000 in
theorem e_impl_axes (M : FOps) (a0_0 : Int) (a0_1 : Nat) (a0_2 : Nat) (a0_3 : Nat) (a1 : (List (Nat × Nat))) (h : r_impl_axes M a0_0 a0_1 a0_2 a0_3 a1 = true) : cwp M Tryz.prog (envOf [(74, S_impl_AxesAt M), (73, S_impl_ArePlaces M)]) (lamOf [(0, L_impl_axes_0 M)]) 40 (Tryz.f41.body.getD .skip) 0 (retK Tryz.prog Tryz.f41.results.toList (.cons (.one (.ls (.fl .f32))) (.cons (.one .bool) .nil)) 0) (initSt (.cons (.agg (.pair (.int .i64) (.pair (.pair (.fl .f32) (.fl .f32)) (.fl .f32)))) (.cons (.one (.ls (.pair (.fl .f32) (.fl .f32)))) .nil)) ((a0_0, ((a0_1, a0_2), a0_3)), (a1, ()))) = some (F_impl_axes (p_impl_axes M a0_0 a0_1 a0_2 a0_3 a1)) := 
  Eq.trans (b := (brT (decide (a1.length < 4611686018427387904)) (brT (!((a1.all fun x => p_impl_ValidPlace M x.fst x.snd) && (decide (1 ≤ a1.length) && decide (a1.length ≤ 64)))) (some (F_impl_axes (([], false)))) (brT ((c0_impl_axes M a0_0 a0_1 a0_2 a0_3 a1).isSome) (brT (isL ((c0_impl_axes M a0_0 a0_1 a0_2 a0_3 a1).getD (Sum.inl ((), false, ())))) (some (F_impl_axes (([], (getL ((), false, ()) ((c0_impl_axes M a0_0 a0_1 a0_2 a0_3 a1).getD (Sum.inl ((), false, ())))).snd.fst)))) (brT ((List.length (getR ([], [], false, ()) ((c0_impl_axes M a0_0 a0_1 a0_2 a0_3 a1).getD (Sum.inl ((), false, ())))).fst).beq (List.length (getR ([], [], false, ()) ((c0_impl_axes M a0_0 a0_1 a0_2 a0_3 a1).getD (Sum.inl ((), false, ())))).fst) && true) (some (F_impl_axes (((getR ([], [], false, ()) ((c0_impl_axes M a0_0 a0_1 a0_2 a0_3 a1).getD (Sum.inl ((), false, ())))).fst, true)))) none)) none)) none)) (by kernel_rfl)
    ((pushL (pushR (fun _ => rfl) (pushL (pushR (fun _ => rfl) (pushL (fun _ => rfl)))))) h)
theorem ok_impl_axes : OkFn Tryz.prog 41 (S_impl_axes R) :=
  okFn_of (good_cons ok_impl_AxesAt (good_cons ok_impl_ArePlaces good_nil)) follows Tryz.func41 rfl (by decide) (by decide) (lam_cons (i := 0) (cc := (loopsOf (Tryz.f41.body.getD .skip)).getD 0 .skip) (by kernel_rfl) lk_impl_axes_0 lam_nil) (m := 2) (fun _ => rfl) (by decide) (fun _ _ h => nomatch h) (fun y c h => by simp [encR, encC] at h; first | (subst h; exact ⟨_, _, rfl⟩) | (rcases h with rfl | rfl <;> exact ⟨_, _, rfl⟩) | (rcases h with rfl | rfl | rfl <;> exact ⟨_, _, rfl⟩)) (fun x hx => ⟨40, e_impl_axes R x.1.1 x.1.2.1.1 x.1.2.1.2 x.1.2.2 x.2.1 hx⟩)

end Go.Proofs.YtbgpobiaaebbeaaGreat
