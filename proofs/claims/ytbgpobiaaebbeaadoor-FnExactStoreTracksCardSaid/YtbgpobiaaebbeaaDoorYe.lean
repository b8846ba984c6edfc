/- Places' lists, by other words. -/
import Derived.Test.YtbgpobiaaebbeaaDoorZe

namespace Go.Proofs.YtbgpobiaaebbeaaDoor
open Go Go.Cv Go.Dv

theorem arePlaces_words (l : List (Nat × Nat)) (hl : l.length < 2 ^ 62) : r_impl_ArePlaces_w R l = true ∧ p_impl_ArePlaces_w R l = placesB R l := by
  unfold r_impl_ArePlaces_w p_impl_ArePlaces_w placesB
  have a1 : decide ((l.length : Int) ≥ 1) = decide (1 ≤ l.length) := decide_eq_decide.2 (by omega)
  have a2 : decide ((l.length : Int) ≤ 64) = decide (l.length ≤ 64) := decide_eq_decide.2 (by omega)
  have a3 : decide (l.length < 4611686018427387904) = true := by simpa using hl
  have e : p_impl_within R (p_impl_length_impl_Place R l) 1 64 = (decide (1 ≤ l.length) && decide (l.length ≤ 64)) := by
    rw [← a1, ← a2]
    unfold p_impl_within p_impl_length_impl_Place
    cases decide ((l.length : Int) ≥ 1) <;> cases decide ((l.length : Int) ≤ 64) <;> rfl
  rw [e, a3]
  show _ ∧ (bif _ then validsB R l else false) = _
  cases (decide (1 ≤ l.length) && decide (l.length ≤ 64)) <;> cases validsB R l <;> exact ⟨rfl, rfl⟩
theorem ok_impl_ArePlaces : OkFn Tryd.prog 47 (S_impl_ArePlaces R) := ok_words ok_impl_ArePlaces_w fun x hx => by
  obtain ⟨h1, h2⟩ := arePlaces_words x.1 (by simpa using hx)
  exact ⟨h1, by unfold F_impl_ArePlaces_w; rw [h2]⟩
end Go.Proofs.YtbgpobiaaebbeaaDoor
