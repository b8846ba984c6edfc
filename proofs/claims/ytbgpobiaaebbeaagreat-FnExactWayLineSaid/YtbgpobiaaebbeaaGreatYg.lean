/- The contracts of sine and angle. -/
import Derived.Test.YtbgpobiaaebbeaaGreatWa
import Derived.Test.YtbgpobiaaebbeaaGreatYd
import Derived.Test.YtbgpobiaaebbeaaGreatNc
namespace Go.Proofs.YtbgpobiaaebbeaaGreat
open Go Go.Cv Go.Dv

theorem ok_spec_l01SineWide : OkFn Tryz.prog 132 (S_spec_l01SineWide R) := ok_spec_l01SineWide_of rr_spec_l01SineWide
theorem ok_impl_AngleTurns : OkFn Tryz.prog 104 (S_impl_AngleTurns R) :=
  okFn_of (good_cons ok_impl_areFinite (good_cons ok_math_NaN (good_cons ok_Abs (good_cons ok_math_Sqrt good_nil)))) follows Tryz.func104 rfl (by decide) (by decide) lam_nil (m := 2) (fun _ => rfl) (by decide) (fun _ _ h => nomatch h) (fun _ _ h => nomatch h)
    (fun x _ => ⟨20, e_impl_AngleTurns R x.1 x.2.1 (rr_impl_AngleTurns _ _)⟩)
end Go.Proofs.YtbgpobiaaebbeaaGreat
