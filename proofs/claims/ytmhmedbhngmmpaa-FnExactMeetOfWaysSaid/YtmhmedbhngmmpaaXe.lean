/- The contracts of further functions over this translation. -/
import Derived.Test.YtmhmedbhngmmpaaPe
import Derived.Test.YtmhmedbhngmmpaaXa

-- GENERATED BELOW (gen.py)
namespace Go.Proofs.Ytmhmedbhngmmpaa
open Go Go.Cv
set_option maxRecDepth 100000 in
theorem e_impl_areValid_1 (M : FOps) (a0_0 : Nat) (a0_1 : Nat) : cwp M Try.prog (envOf [(55, S_impl_ValidPlace M)]) 40 (Try.f88.body.getD .skip) (retK Try.prog Try.f88.results.toList) (initSt [.agg [.fl .f32 a0_0, .fl .f32 a0_1]]) = some (F_impl_areValid_1 (p_impl_areValid_1 M a0_0 a0_1)) := by kernel_rfl

theorem ok_impl_areValid_1 : OkFn Try.prog 88 (S_impl_areValid_1 R) := by
  refine okFn_of_cwp (good_cons ok_impl_ValidPlace good_nil) follows Try.func88 rfl (by decide) (by decide) ?_
  intro hp args cv deps h
  unfold S_impl_areValid_1 at h
  split at h
  · cases h
    exact ⟨rfl, (fun d hd => nomatch hd), Nat.le_of_ble_eq_true rfl, _, 40, view_plain rfl, e_impl_areValid_1 R _ _⟩
  · cases h

end Go.Proofs.Ytmhmedbhngmmpaa
