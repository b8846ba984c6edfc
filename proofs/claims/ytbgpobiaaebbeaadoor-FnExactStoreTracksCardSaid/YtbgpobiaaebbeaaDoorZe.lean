/- Printed by gen2.py. -/
import Derived.Test.YtbgpobiaaebbeaaDoorWf
import Derived.Test.YtbgpobiaaebbeaaDoorYd

set_option linter.unusedVariables false
set_option linter.unusedSimpArgs false

-- GENERATED BELOW (gen.py)
namespace Go.Proofs.YtbgpobiaaebbeaaDoor
open Go Go.Cv Go.Dv
set_option maxRecDepth 100000 in
theorem e_impl_ArePlaces_w (M : FOps) (a0 : (List (Nat × Nat))) (h : r_impl_ArePlaces_w M a0 = true) : cwp M Tryd.prog (envOf [(74, S_impl_areValid M), (67, S_impl_within M), (73, S_impl_length_impl_Place M)]) (lamOf []) 40 (Tryd.f47.body.getD .skip) 0 (retK Tryd.prog Tryd.f47.results.toList (.cons (.one .bool) .nil) 0) (initSt (.cons (.one (.ls (.pair (.fl .f32) (.fl .f32)))) .nil) (a0, ())) = some (F_impl_ArePlaces_w (p_impl_ArePlaces_w M a0)) := 
  Eq.trans (b := (brT (p_impl_within M (p_impl_length_impl_Place M a0) 1 64) (brT (decide (a0.length < 4611686018427387904)) (some (F_impl_ArePlaces_w (a0.all fun x => p_impl_ValidPlace M x.fst x.snd))) none) (some (F_impl_ArePlaces_w (false))))) (by kernel_rfl)
    ((pushR (pushL (fun _ => rfl)) (fun _ => rfl)) h)
theorem ok_impl_ArePlaces_w : OkFn Tryd.prog 47 (S_impl_ArePlaces_w R) :=
  okFn_of (good_cons ok_impl_areValid (good_cons ok_impl_within (good_cons ok_impl_length_impl_Place good_nil))) follows Tryd.func47 rfl (by decide) (by decide) lam_nil (m := 1) (fun _ => rfl) (by decide) (fun _ _ h => nomatch h) (fun _ _ h => nomatch h) (fun x hx => ⟨40, e_impl_ArePlaces_w R x.1 hx⟩)

end Go.Proofs.YtbgpobiaaebbeaaDoor
