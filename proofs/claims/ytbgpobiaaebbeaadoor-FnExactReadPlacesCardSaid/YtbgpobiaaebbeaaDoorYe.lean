/- Printed by gen2.py. -/
/- Places' lists, by other words. -/
import Derived.Test.YtbgpobiaaebbeaaDoorLp
import Derived.Test.YtbgpobiaaebbeaaDoorYd

set_option linter.unusedVariables false
set_option linter.unusedSimpArgs false

-- GENERATED BELOW (gen.py)
namespace Go.Proofs.YtbgpobiaaebbeaaDoor
open Go Go.Cv Go.Dv
set_option maxRecDepth 100000 in
theorem e_impl_ArePlaces_w (M : FOps) (a0 : (List (Nat × Nat))) (h : r_impl_ArePlaces_w M a0 = true) : cwp M Tryd.prog (envOf [(74, S_impl_areValid M), (67, S_impl_within M), (73, S_impl_length_impl_Place M)]) (lamOf []) 40 (Tryd.f47.body.getD .skip) 0 (retK Tryd.prog Tryd.f47.results.toList (.cons (.one .bool) .nil) 0) (initSt (.cons (.one (.ls (.pair (.fl .f32) (.fl .f32)))) .nil) (a0, ())) = some (F_impl_ArePlaces_w (p_impl_ArePlaces_w M a0)) := 
  Eq.trans (b := (brT (p_impl_within M (p_impl_length_impl_Place M a0) 1 64) (brT (decide (a0.length < 4611686018427387904)) (some (F_impl_ArePlaces_w (a0.all fun x => p_impl_ValidPlace M x.fst x.snd))) none) (some (F_impl_ArePlaces_w (false))))) (by kernel_rfl)
    ((pushR (pushL (fun _ => rfl)) (fun _ => rfl)) h)
theorem ok_impl_ArePlaces_w : OkFn Tryd.prog 47 (S_impl_ArePlaces_w R) :=
  okFn_of (good_cons ok_impl_areValid (good_cons ok_impl_within (good_cons ok_impl_length_impl_Place good_nil))) follows Tryd.func47 rfl (by decide) (by decide) lam_nil (m := 1) (fun _ => rfl) (by decide) (fun _ _ h => nomatch h) (fun _ _ h => nomatch h) (fun x hx => ⟨40, e_impl_ArePlaces_w R x.1 hx⟩)

end Go.Proofs.YtbgpobiaaebbeaaDoor


namespace Go.Proofs.YtbgpobiaaebbeaaDoor
open Go Go.Cv Go.Dv

theorem arePlaces_words (l : List (Nat × Nat)) (hl : l.length < 2 ^ 62) : r_impl_ArePlaces_w R l = true ∧ p_impl_ArePlaces_w R l = placesB R l := by
  unfold r_impl_ArePlaces_w p_impl_ArePlaces_w placesB
  have a1 : decide ((l.length : Int) ≥ 1) = decide (1 ≤ l.length) := decide_eq_decide.2 (by omega)
  have a2 : decide ((l.length : Int) ≤ 64) = decide (l.length ≤ 64) := decide_eq_decide.2 (by omega)
  have a3 : decide (l.length < 4611686018427387904) = true := by simpa using hl
  have e : p_impl_within R (p_impl_length_impl_Place R l) 1 64 = (decide (1 ≤ l.length) && decide (l.length ≤ 64)) := by
    rw [← a1, ← a2]
    unfold p_impl_within p_impl_length_impl_Place
    cases decide ((l.length : Int) ≥ 1) <;> cases decide ((l.length : Int) ≤ 64) <;> rfl
  rw [e, a3]
  show _ ∧ (bif _ then validsB R l else false) = _
  cases (decide (1 ≤ l.length) && decide (l.length ≤ 64)) <;> cases validsB R l <;> exact ⟨rfl, rfl⟩
theorem ok_impl_ArePlaces : OkFn Tryd.prog 47 (S_impl_ArePlaces R) := ok_words ok_impl_ArePlaces_w fun x hx => by
  obtain ⟨h1, h2⟩ := arePlaces_words x.1 (by simpa using hx)
  exact ⟨h1, by unfold F_impl_ArePlaces_w; rw [h2]⟩
end Go.Proofs.YtbgpobiaaebbeaaDoor
