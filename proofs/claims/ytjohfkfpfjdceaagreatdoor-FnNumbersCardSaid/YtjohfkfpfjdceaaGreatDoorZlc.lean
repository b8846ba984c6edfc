/- Printed by gen2.py. -/
import Derived.Test.YtjohfkfpfjdceaaGreatDoorWlc
import Derived.Test.YtjohfkfpfjdceaaGreatDoorZlb
import Derived.Test.YtjohfkfpfjdceaaGreatDoorYq
import Derived.Test.YtjohfkfpfjdceaaGreatDoorLra

set_option linter.unusedVariables false
set_option linter.unusedSimpArgs false

-- GENERATED BELOW (gen.py)
namespace Go.Proofs.YtjohfkfpfjdceaaGreatDoor
open Go Go.Cv Go.Dv
set_option maxRecDepth 100000 in
theorem e_spec_SameNumber (M : FOps) (a0 : Nat) (a1 : Nat) (h : r_spec_SameNumber M a0 a1 = true) : cwp M Tryz.prog (envOf [(48, S_spec_l01Same M)]) (lamOf []) 40 (Tryz.f11.body.getD .skip) 0 (retK Tryz.prog Tryz.f11.results.toList (.cons (.one .bool) .nil) 0) (initSt (.cons (.one (.fl .f32)) (.cons (.one (.fl .f32)) .nil)) (a0, (a1, ()))) = some (F_spec_SameNumber (p_spec_SameNumber M a0 a1)) := 
  Eq.trans (b := (brT (r_spec_l01Same M a0 a1) (some (F_spec_SameNumber (p_spec_l01Same M a0 a1))) none)) (by kernel_rfl)
    ((pushL (fun _ => rfl)) h)
theorem ok_spec_SameNumber : OkFn Tryz.prog 11 (S_spec_SameNumber R) :=
  okFn_of (good_cons ok_spec_l01Same good_nil) follows Tryz.func11 rfl (by decide) (by decide) lam_nil (m := 2) (fun _ => rfl) (by decide) (fun _ _ h => nomatch h) (fun _ _ h => nomatch h) (fun x hx => ⟨40, e_spec_SameNumber R x.1 x.2.1 hx⟩)

set_option maxRecDepth 100000 in
theorem e_laws_b10Long (M : FOps) (a0 : (List Int)) (a1 : (List Int)) : cwp M Tryz.prog (envOf []) (lamOf []) 40 (Tryz.f6.body.getD .skip) 0 (retK Tryz.prog Tryz.f6.results.toList (.cons (.one .bool) .nil) 0) (initSt (.cons (.one (.ls (.int .u8))) (.cons (.one (.ls (.int .u8))) .nil)) (a0, (a1, ()))) = some (F_laws_b10Long (p_laws_b10Long M a0 a1)) := 
  Eq.trans (b := (brT (decide ((↑a0.length : Int) > 1048576)) (some (F_laws_b10Long (true))) (some (F_laws_b10Long (decide ((↑a1.length : Int) > 1048576)))))) (by kernel_rfl)
    ((push2 rfl rfl))
theorem ok_laws_b10Long : OkFn Tryz.prog 6 (S_laws_b10Long R) :=
  okFn_of good_nil follows Tryz.func6 rfl (by decide) (by decide) lam_nil (m := 2) (fun _ => rfl) (by decide) (fun _ _ h => nomatch h) (fun _ _ h => nomatch h) (fun x _ => ⟨40, e_laws_b10Long R x.1 x.2.1⟩)

set_option maxRecDepth 100000 in
theorem e_laws_b10At (M : FOps) (a0 : (List Int)) (a1 : Int) (a2 : Int) (h : r_laws_b10At M a0 a1 a2 = true) : cwp M Tryz.prog (envOf []) (lamOf []) 40 (Tryz.f17.body.getD .skip) 0 (retK Tryz.prog Tryz.f17.results.toList (.cons (.one (.int .i64)) .nil) 0) (initSt (.cons (.one (.ls (.int .u8))) (.cons (.one (.int .i64)) (.cons (.one (.int .i64)) .nil))) (a0, (a1, (a2, ())))) = some (F_laws_b10At (p_laws_b10At M a0 a1 a2)) := 
  Eq.trans (b := (brT (decide (a2 ≤ 1)) (some (F_laws_b10At (0))) (brT (decide (a1 < (↑a0.length : Int))) (brT (decide (0 ≤ a1) && decide (a1 < (↑a0.length : Int))) (brT (a2 == 0) none (some (F_laws_b10At ((IntKind.i64.wrap (a0.getD a1.toNat 0)).tmod a2)))) none) (brT (a2 == 0) none (some (F_laws_b10At ((IntKind.i64.wrap (IntKind.i64.wrap (a1 * 37) + 11)).tmod a2))))))) (by kernel_rfl)
    ((pushR (fun _ => rfl) (pushR (pushL (pushN (fun _ => rfl))) (pushN (fun _ => rfl)))) h)
theorem ok_laws_b10At : OkFn Tryz.prog 17 (S_laws_b10At R) :=
  okFn_of good_nil follows Tryz.func17 rfl (by decide) (by decide) lam_nil (m := 3) (fun _ => rfl) (by decide) (fun _ _ h => nomatch h) (fun _ _ h => nomatch h) (fun x hx => ⟨40, e_laws_b10At R x.1 x.2.1 x.2.2.1 hx⟩)

set_option maxRecDepth 100000 in
theorem e_impl_FromBits (M : FOps) (a0 : Int) (h : r_impl_FromBits M a0 = true) : cwp M Tryz.prog (envOf [(60, S_impl_within M), (61, S_math_Float32frombits M)]) (lamOf []) 40 (Tryz.f21.body.getD .skip) 0 (retK Tryz.prog Tryz.f21.results.toList (.cons (.one (.fl .f32)) (.cons (.one .bool) .nil)) 0) (initSt (.cons (.one (.int .i64)) .nil) (a0, ())) = some (F_impl_FromBits (p_impl_FromBits M a0)) := 
  Eq.trans (b := (brT (!p_impl_within M a0 0 4294967295) (some (F_impl_FromBits ((0, false)))) (brT (decide (0 ≤ IntKind.u32.wrap a0) && decide (IntKind.u32.wrap a0 < 4294967296)) (some (F_impl_FromBits ((p_math_Float32frombits M (IntKind.u32.wrap a0), true)))) none))) (by kernel_rfl)
    ((pushR (fun _ => rfl) (pushL (fun _ => rfl))) h)
theorem ok_impl_FromBits : OkFn Tryz.prog 21 (S_impl_FromBits R) :=
  okFn_of (good_cons ok_impl_within (good_cons ok_math_Float32frombits good_nil)) follows Tryz.func21 rfl (by decide) (by decide) lam_nil (m := 1) (fun _ => rfl) (by decide) (fun _ _ h => nomatch h) (fun _ _ h => nomatch h) (fun x hx => ⟨40, e_impl_FromBits R x.1 hx⟩)

set_option maxRecDepth 100000 in
theorem e_impl_IsSubnormal (M : FOps) (a0 : Nat) : cwp M Tryz.prog (envOf [(77, un64 M.abs)]) (lamOf []) 40 (Tryz.f34.body.getD .skip) 0 (retK Tryz.prog Tryz.f34.results.toList (.cons (.one .bool) .nil) 0) (initSt (.cons (.one (.fl .f32)) .nil) (a0, ())) = some (F_impl_IsSubnormal (p_impl_IsSubnormal M a0)) := 
  Eq.trans (b := (brT (M.cmp BinOp.neq FloatKind.f32 a0 0) (some (F_impl_IsSubnormal (M.cmp BinOp.lss FloatKind.f64 (M.abs (M.wid a0)) 4039728865751334912))) (some (F_impl_IsSubnormal (false))))) (by kernel_rfl)
    ((push2 rfl rfl))
theorem ok_impl_IsSubnormal : OkFn Tryz.prog 34 (S_impl_IsSubnormal R) :=
  okFn_of (good_cons ok_Abs good_nil) follows Tryz.func34 rfl (by decide) (by decide) lam_nil (m := 1) (fun _ => rfl) (by decide) (fun _ _ h => nomatch h) (fun _ _ h => nomatch h) (fun x _ => ⟨40, e_impl_IsSubnormal R x.1⟩)

set_option maxRecDepth 100000 in
theorem e_impl_FlushNumber (M : FOps) (a0 : Nat) (h : r_impl_FlushNumber M a0 = true) : cwp M Tryz.prog (envOf [(34, S_impl_IsSubnormal M), (69, S_math_Copysign M)]) (lamOf []) 40 (Tryz.f29.body.getD .skip) 0 (retK Tryz.prog Tryz.f29.results.toList (.cons (.one (.fl .f32)) .nil) 0) (initSt (.cons (.one (.fl .f32)) .nil) (a0, ())) = some (F_impl_FlushNumber (p_impl_FlushNumber M a0)) := 
  Eq.trans (b := (brT (p_impl_IsSubnormal M a0) (brT (r_math_Copysign M 0 (c0_impl_FlushNumber M a0)) (brT (M.narOk (c1_impl_FlushNumber M a0)) (some (F_impl_FlushNumber (M.nar (c1_impl_FlushNumber M a0)))) none) none) (some (F_impl_FlushNumber (a0))))) (by kernel_rfl)
    ((pushR (pushL (pushL (fun _ => rfl))) (fun _ => rfl)) h)
theorem ok_impl_FlushNumber : OkFn Tryz.prog 29 (S_impl_FlushNumber R) :=
  okFn_of (good_cons ok_impl_IsSubnormal (good_cons ok_math_Copysign good_nil)) follows Tryz.func29 rfl (by decide) (by decide) lam_nil (m := 1) (fun _ => rfl) (by decide) (fun _ _ h => nomatch h) (fun _ _ h => nomatch h) (fun x hx => ⟨40, e_impl_FlushNumber R x.1 hx⟩)

set_option maxRecDepth 100000 in
theorem hs_impl_sum_0 (M : FOps) (v0 : Nat) (v1 : (List Nat)) (v2 : Int) (v3 : Int) (v4 : Nat) : cwp M Tryz.prog (envOf []) (lamOf []) 40 ((loopsOf (Tryz.f72.body.getD .skip)).getD 0 .skip) 1 (stepK (.cons (.tv 3 false (.fl .f32)) (.cons (.tv 6 true (.ls (.fl .f32))) (.cons (.tv 7 false (.int .i64)) (.cons (.tv 8 false (.int .i64)) (.cons (.tv 2 false (.fl .f32)) .nil))))) [((.exit 0), (.cons (.tv 3 false (.fl .f32)) (.cons (.tv 2 false (.fl .f32)) .nil)))]) (canon (.cons (.tv 3 false (.fl .f32)) (.cons (.tv 6 true (.ls (.fl .f32))) (.cons (.tv 7 false (.int .i64)) (.cons (.tv 8 false (.int .i64)) (.cons (.tv 2 false (.fl .f32)) .nil))))) 0 0 (v0, (v1, (v2, (v3, (v4, ())))))) = st_impl_sum_0 M v0 v1 v2 v3 v4 := by
  unfold st_impl_sum_0
  kernel_rfl
set_option maxRecDepth 100000 in
theorem lk_impl_sum_0 : LOk Tryz.prog Tryz.f72.ntmps ((loopsOf (Tryz.f72.body.getD .skip)).getD 0 .skip) (L_impl_sum_0 R) :=
  lok (F := 40) (Λ := lamOf []) (b := 1) good_nil follows (by kernel_rfl) (fun _ _ _ _ h => nomatch h) (by decide) (by decide) (by decide) (fun x => hs_impl_sum_0 R x.1 x.2.1 x.2.2.1 x.2.2.2.1 x.2.2.2.2.1)
set_option maxRecDepth 100000 in
theorem e_impl_sum (M : FOps) (a0 : (List Nat)) (h : r_impl_sum M a0 = true) : cwp M Tryz.prog (envOf []) (lamOf [(0, L_impl_sum_0 M)]) 40 (Tryz.f72.body.getD .skip) 0 (retK Tryz.prog Tryz.f72.results.toList (.cons (.one (.fl .f32)) .nil) 0) (initSt (.cons (.one (.ls (.fl .f32))) .nil) (a0, ())) = some (F_impl_sum (p_impl_sum M a0)) := 
  Eq.trans (b := (brT ((c0_impl_sum M a0).isSome) (some (F_impl_sum (((c0_impl_sum M a0).getD (0, 0, ())).fst))) none)) (by kernel_rfl)
    ((pushL (fun _ => rfl)) h)
theorem ok_impl_sum : OkFn Tryz.prog 72 (S_impl_sum R) :=
  okFn_of good_nil follows Tryz.func72 rfl (by decide) (by decide) (lam_cons (i := 0) (cc := (loopsOf (Tryz.f72.body.getD .skip)).getD 0 .skip) (by kernel_rfl) lk_impl_sum_0 lam_nil) (m := 1) (fun _ => rfl) (by decide) (fun _ _ h => nomatch h) (fun _ _ h => nomatch h) (fun x hx => ⟨40, e_impl_sum R x.1 hx⟩)

set_option maxRecDepth 100000 in
theorem e_impl_SumNumbers (M : FOps) (a0 : (List Nat)) (h : r_impl_SumNumbers M a0 = true) : cwp M Tryz.prog (envOf [(71, S_impl_isList_float32 M), (72, S_impl_sum M)]) (lamOf []) 40 (Tryz.f31.body.getD .skip) 0 (retK Tryz.prog Tryz.f31.results.toList (.cons (.one (.fl .f32)) (.cons (.one .bool) .nil)) 0) (initSt (.cons (.one (.ls (.fl .f32))) .nil) (a0, ())) = some (F_impl_SumNumbers (p_impl_SumNumbers M a0)) := 
  Eq.trans (b := (brT (!p_impl_isList_float32 M a0) (some (F_impl_SumNumbers ((0, false)))) (brT (r_impl_sum M a0) (some (F_impl_SumNumbers ((p_impl_sum M a0, true)))) none))) (by kernel_rfl)
    ((pushR (fun _ => rfl) (pushL (fun _ => rfl))) h)
theorem ok_impl_SumNumbers : OkFn Tryz.prog 31 (S_impl_SumNumbers R) :=
  okFn_of (good_cons ok_impl_isList_float32 (good_cons ok_impl_sum good_nil)) follows Tryz.func31 rfl (by decide) (by decide) lam_nil (m := 1) (fun _ => rfl) (by decide) (fun _ _ h => nomatch h) (fun _ _ h => nomatch h) (fun x hx => ⟨40, e_impl_SumNumbers R x.1 hx⟩)

set_option maxRecDepth 100000 in
theorem e_impl_NarrowNumber (M : FOps) (a0 : Nat) (h : r_impl_NarrowNumber M a0 = true) : cwp M Tryz.prog (envOf []) (lamOf []) 40 (Tryz.f37.body.getD .skip) 0 (retK Tryz.prog Tryz.f37.results.toList (.cons (.one (.fl .f32)) .nil) 0) (initSt (.cons (.one (.fl .f64)) .nil) (a0, ())) = some (F_impl_NarrowNumber (p_impl_NarrowNumber M a0)) := 
  Eq.trans (b := (brT (M.narOk a0) (some (F_impl_NarrowNumber (M.nar a0))) none)) (by kernel_rfl)
    ((pushL (fun _ => rfl)) h)
theorem ok_impl_NarrowNumber : OkFn Tryz.prog 37 (S_impl_NarrowNumber R) :=
  okFn_of good_nil follows Tryz.func37 rfl (by decide) (by decide) lam_nil (m := 1) (fun _ => rfl) (by decide) (fun _ _ h => nomatch h) (fun _ _ h => nomatch h) (fun x hx => ⟨40, e_impl_NarrowNumber R x.1 hx⟩)

set_option maxRecDepth 100000 in
theorem e_impl_AngleOf (M : FOps) (a0_0 : Nat) (a0_1 : Nat) : cwp M Tryz.prog (envOf [(35, S_impl_AngleTurns M)]) (lamOf []) 40 (Tryz.f36.body.getD .skip) 0 (retK Tryz.prog Tryz.f36.results.toList (.cons (.one (.fl .f32)) .nil) 0) (initSt (.cons (.one (.cx .f32)) .nil) ((a0_0, a0_1), ())) = some (F_impl_AngleOf (p_impl_AngleOf M a0_0 a0_1)) := by kernel_rfl
theorem ok_impl_AngleOf : OkFn Tryz.prog 36 (S_impl_AngleOf R) :=
  okFn_of (good_cons ok_impl_AngleTurns good_nil) follows Tryz.func36 rfl (by decide) (by decide) lam_nil (m := 1) (fun _ => rfl) (by decide) (fun _ _ h => nomatch h) (fun _ _ h => nomatch h) (fun x _ => ⟨40, e_impl_AngleOf R x.1.1 x.1.2⟩)

end Go.Proofs.YtjohfkfpfjdceaaGreatDoor
