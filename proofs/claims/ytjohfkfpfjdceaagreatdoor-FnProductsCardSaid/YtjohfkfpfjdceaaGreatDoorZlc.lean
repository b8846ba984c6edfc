/- Printed by gen2.py. -/
import Derived.Test.YtjohfkfpfjdceaaGreatDoorWlc
import Derived.Test.YtjohfkfpfjdceaaGreatDoorZlb
import Derived.Test.YtjohfkfpfjdceaaGreatDoorLq
import Derived.Test.YtjohfkfpfjdceaaGreatDoorZli

set_option linter.unusedVariables false
set_option linter.unusedSimpArgs false

-- GENERATED BELOW (gen.py)
namespace Go.Proofs.YtjohfkfpfjdceaaGreatDoor
open Go Go.Cv Go.Dv
set_option maxRecDepth 100000 in
theorem e_spec_SameNumber (M : FOps) (a0 : Nat) (a1 : Nat) (h : r_spec_SameNumber M a0 a1 = true) : cwp M Tryz.prog (envOf [(48, S_spec_l01Same M)]) (lamOf []) 40 (Tryz.f11.body.getD .skip) 0 (retK Tryz.prog Tryz.f11.results.toList (.cons (.one .bool) .nil) 0) (initSt (.cons (.one (.fl .f32)) (.cons (.one (.fl .f32)) .nil)) (a0, (a1, ()))) = some (F_spec_SameNumber (p_spec_SameNumber M a0 a1)) := 
  Eq.trans (b := (brT (r_spec_l01Same M a0 a1) (some (F_spec_SameNumber (p_spec_l01Same M a0 a1))) none)) (by kernel_rfl)
    ((pushL (fun _ => rfl)) h)
theorem ok_spec_SameNumber : OkFn Tryz.prog 11 (S_spec_SameNumber R) :=
  okFn_of (good_cons ok_spec_l01Same good_nil) follows Tryz.func11 rfl (by decide) (by decide) lam_nil (m := 2) (fun _ => rfl) (by decide) (fun _ _ h => nomatch h) (fun _ _ h => nomatch h) (fun x hx => ⟨40, e_spec_SameNumber R x.1 x.2.1 hx⟩)

set_option maxRecDepth 100000 in
theorem e_laws_b10Long (M : FOps) (a0 : (List Int)) (a1 : (List Int)) : cwp M Tryz.prog (envOf []) (lamOf []) 40 (Tryz.f6.body.getD .skip) 0 (retK Tryz.prog Tryz.f6.results.toList (.cons (.one .bool) .nil) 0) (initSt (.cons (.one (.ls (.int .u8))) (.cons (.one (.ls (.int .u8))) .nil)) (a0, (a1, ()))) = some (F_laws_b10Long (p_laws_b10Long M a0 a1)) := 
  Eq.trans (b := (brT (decide ((↑a0.length : Int) > 1048576)) (some (F_laws_b10Long (true))) (some (F_laws_b10Long (decide ((↑a1.length : Int) > 1048576)))))) (by kernel_rfl)
    ((push2 rfl rfl))
theorem ok_laws_b10Long : OkFn Tryz.prog 6 (S_laws_b10Long R) :=
  okFn_of good_nil follows Tryz.func6 rfl (by decide) (by decide) lam_nil (m := 2) (fun _ => rfl) (by decide) (fun _ _ h => nomatch h) (fun _ _ h => nomatch h) (fun x _ => ⟨40, e_laws_b10Long R x.1 x.2.1⟩)

set_option maxRecDepth 100000 in
theorem e_laws_b10At (M : FOps) (a0 : (List Int)) (a1 : Int) (a2 : Int) (h : r_laws_b10At M a0 a1 a2 = true) : cwp M Tryz.prog (envOf []) (lamOf []) 40 (Tryz.f17.body.getD .skip) 0 (retK Tryz.prog Tryz.f17.results.toList (.cons (.one (.int .i64)) .nil) 0) (initSt (.cons (.one (.ls (.int .u8))) (.cons (.one (.int .i64)) (.cons (.one (.int .i64)) .nil))) (a0, (a1, (a2, ())))) = some (F_laws_b10At (p_laws_b10At M a0 a1 a2)) := 
  Eq.trans (b := (brT (decide (a2 ≤ 1)) (some (F_laws_b10At (0))) (brT (decide (a1 < (↑a0.length : Int))) (brT (decide (0 ≤ a1) && decide (a1 < (↑a0.length : Int))) (brT (a2 == 0) none (some (F_laws_b10At ((IntKind.i64.wrap (a0.getD a1.toNat 0)).tmod a2)))) none) (brT (a2 == 0) none (some (F_laws_b10At ((IntKind.i64.wrap (IntKind.i64.wrap (a1 * 37) + 11)).tmod a2))))))) (by kernel_rfl)
    ((pushR (fun _ => rfl) (pushR (pushL (pushN (fun _ => rfl))) (pushN (fun _ => rfl)))) h)
theorem ok_laws_b10At : OkFn Tryz.prog 17 (S_laws_b10At R) :=
  okFn_of good_nil follows Tryz.func17 rfl (by decide) (by decide) lam_nil (m := 3) (fun _ => rfl) (by decide) (fun _ _ h => nomatch h) (fun _ _ h => nomatch h) (fun x hx => ⟨40, e_laws_b10At R x.1 x.2.1 x.2.2.1 hx⟩)

set_option maxRecDepth 100000 in
theorem e_impl_FromBits (M : FOps) (a0 : Int) (h : r_impl_FromBits M a0 = true) : cwp M Tryz.prog (envOf [(60, S_impl_within M), (61, S_math_Float32frombits M)]) (lamOf []) 40 (Tryz.f21.body.getD .skip) 0 (retK Tryz.prog Tryz.f21.results.toList (.cons (.one (.fl .f32)) (.cons (.one .bool) .nil)) 0) (initSt (.cons (.one (.int .i64)) .nil) (a0, ())) = some (F_impl_FromBits (p_impl_FromBits M a0)) := 
  Eq.trans (b := (brT (!p_impl_within M a0 0 4294967295) (some (F_impl_FromBits ((0, false)))) (brT (decide (0 ≤ IntKind.u32.wrap a0) && decide (IntKind.u32.wrap a0 < 4294967296)) (some (F_impl_FromBits ((p_math_Float32frombits M (IntKind.u32.wrap a0), true)))) none))) (by kernel_rfl)
    ((pushR (fun _ => rfl) (pushL (fun _ => rfl))) h)
theorem ok_impl_FromBits : OkFn Tryz.prog 21 (S_impl_FromBits R) :=
  okFn_of (good_cons ok_impl_within (good_cons ok_math_Float32frombits good_nil)) follows Tryz.func21 rfl (by decide) (by decide) lam_nil (m := 1) (fun _ => rfl) (by decide) (fun _ _ h => nomatch h) (fun _ _ h => nomatch h) (fun x hx => ⟨40, e_impl_FromBits R x.1 hx⟩)

end Go.Proofs.YtjohfkfpfjdceaaGreatDoor
