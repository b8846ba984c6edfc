/- Lists of numbers and of places: what the loops tell in the end. -/
import Derived.Test.YtbgpobiaaebbeaaDoorZa
import Derived.Test.YtbgpobiaaebbeaaDoorLo
namespace Go.Dv
open Go.Cv

theorem areFinite_words (l : List Nat) (hl : l.length < 2 ^ 62) : r_impl_areFinite_w R l = true ∧ p_impl_areFinite_w R l = finsB R l := by
  have h := runW_scan (step := fun x => st_impl_areFinite_w_0 R x.1 x.2.1 x.2.2.1 x.2.2.2.1) (n := l.length) (test := fun i => p_impl_IsFinite R (l.getD i 0)) (mk := fun i => (l, (l.length : Int), (i : Int), false, ()))
    (oT := .inr (false, ())) (oF := fun _ => .inl (false, ()))
    (fun i hi => by
      simp only [st_impl_areFinite_w_0, Int.toNat_natCast]
      have h1 : decide ((i : Int) < (l.length : Int)) = true := by simpa using hi
      have h2 : decide (0 ≤ (i : Int)) = true := by simp
      rw [h1, h2, wrap_succ (by omega)]
      cases p_impl_IsFinite R (l.getD i 0) <;> rfl)
    (by simp only [st_impl_areFinite_w_0]; simp [brT])
  have e : c0_impl_areFinite_w R l = runW (fun x => st_impl_areFinite_w_0 R x.1 x.2.1 x.2.2.1 x.2.2.2.1) (l, (l.length : Int), ((0 : Nat) : Int), false, ()) := rfl
  unfold r_impl_areFinite_w p_impl_areFinite_w finsB
  rcases h with ⟨h1, h2⟩ | ⟨j, hj, h1, h2⟩
  · rw [e, h2]
    refine ⟨rfl, (all_iff.1 fun i hi => ?_).symm⟩
    have := h1 i hi
    rwa [getD_lt hi] at this
  · rw [e, h2]
    refine ⟨rfl, ?_⟩
    cases ha : l.all (fun x => p_impl_IsFinite R x)
    · rfl
    · have := all_iff.2 ha j hj
      rw [getD_lt hj] at h1
      rw [h1] at this; cases this

end Go.Dv
namespace Go.Proofs.YtbgpobiaaebbeaaDoor
open Go Go.Cv Go.Dv

theorem ok_impl_areFinite : OkFn Tryd.prog 82 (S_impl_areFinite R) := ok_words ok_impl_areFinite_w fun x hx => by
  obtain ⟨h1, h2⟩ := areFinite_words x.1 (by simpa using hx)
  exact ⟨h1, by unfold F_impl_areFinite_w; rw [h2]⟩
end Go.Proofs.YtbgpobiaaebbeaaDoor
