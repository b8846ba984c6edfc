/- Printed by gen2.py. -/
import Derived.Test.YtgfplcpjnlignaaDoorWlj
import Derived.Test.YtgfplcpjnlignaaDoorYm

set_option linter.unusedVariables false
set_option linter.unusedSimpArgs false

-- GENERATED BELOW (gen.py)
namespace Go.Proofs.YtgfplcpjnlignaaDoor
open Go Go.Cv Go.Dv
set_option maxRecDepth 100000 in
theorem e_laws_b10Long (M : FOps) (a0 : (List Int)) (a1 : (List Int)) : cwp M Tryd.prog (envOf []) (lamOf []) 40 (Tryd.f5.body.getD .skip) 0 (retK Tryd.prog Tryd.f5.results.toList (.cons (.one .bool) .nil) 0) (initSt (.cons (.one (.ls (.int .u8))) (.cons (.one (.ls (.int .u8))) .nil)) (a0, (a1, ()))) = some (F_laws_b10Long (p_laws_b10Long M a0 a1)) := 
  Eq.trans (b := (brT (decide ((↑a0.length : Int) > 1048576)) (some (F_laws_b10Long (true))) (some (F_laws_b10Long (decide ((↑a1.length : Int) > 1048576)))))) (by kernel_rfl)
    ((push2 rfl rfl))
theorem ok_laws_b10Long : OkFn Tryd.prog 5 (S_laws_b10Long R) :=
  okFn_of good_nil follows Tryd.func5 rfl (by decide) (by decide) lam_nil (m := 2) (fun _ => rfl) (by decide) (fun _ _ h => nomatch h) (fun _ _ h => nomatch h) (fun x _ => ⟨40, e_laws_b10Long R x.1 x.2.1⟩)

set_option maxRecDepth 100000 in
theorem e_laws_b10At (M : FOps) (a0 : (List Int)) (a1 : Int) (a2 : Int) (h : r_laws_b10At M a0 a1 a2 = true) : cwp M Tryd.prog (envOf []) (lamOf []) 40 (Tryd.f13.body.getD .skip) 0 (retK Tryd.prog Tryd.f13.results.toList (.cons (.one (.int .i64)) .nil) 0) (initSt (.cons (.one (.ls (.int .u8))) (.cons (.one (.int .i64)) (.cons (.one (.int .i64)) .nil))) (a0, (a1, (a2, ())))) = some (F_laws_b10At (p_laws_b10At M a0 a1 a2)) := 
  Eq.trans (b := (brT (decide (a2 ≤ 1)) (some (F_laws_b10At (0))) (brT (decide (a1 < (↑a0.length : Int))) (brT (decide (0 ≤ a1) && decide (a1 < (↑a0.length : Int))) (brT (a2 == 0) none (some (F_laws_b10At ((IntKind.i64.wrap (a0.getD a1.toNat 0)).tmod a2)))) none) (brT (a2 == 0) none (some (F_laws_b10At ((IntKind.i64.wrap (IntKind.i64.wrap (a1 * 37) + 11)).tmod a2))))))) (by kernel_rfl)
    ((pushR (fun _ => rfl) (pushR (pushL (pushN (fun _ => rfl))) (pushN (fun _ => rfl)))) h)
theorem ok_laws_b10At : OkFn Tryd.prog 13 (S_laws_b10At R) :=
  okFn_of good_nil follows Tryd.func13 rfl (by decide) (by decide) lam_nil (m := 3) (fun _ => rfl) (by decide) (fun _ _ h => nomatch h) (fun _ _ h => nomatch h) (fun x hx => ⟨40, e_laws_b10At R x.1 x.2.1 x.2.2.1 hx⟩)

end Go.Proofs.YtgfplcpjnlignaaDoor
