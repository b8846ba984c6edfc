/- The laws' own functions on lists of places: what the loops tell in the end. -/
import Derived.Test.YtbgpobiaaebbeaaDoorZt
import Derived.Test.YtbgpobiaaebbeaaDoorQd
import Derived.Test.YtbgpobiaaebbeaaDoorLo

namespace Go.Dv
open Go.Cv

theorem eqPlaceS_words (a b : List (Nat × Nat)) (hl : a.length < 2 ^ 62) : r_laws_eqPlaceS_w R a b = true ∧ p_laws_eqPlaceS_w R a b = p_laws_eqPlaceS R a b := by
  unfold r_laws_eqPlaceS_w p_laws_eqPlaceS_w p_laws_eqPlaceS
  by_cases hab : a.length = b.length
  · have hne : ((a.length : Int) != (b.length : Int)) = false := by rw [hab]; simp
    have hd : decide ((a.length : Int) = (b.length : Int)) = true := decide_eq_true (by omega)
    have h := runW_scan (step := fun x => st_laws_eqPlaceS_w_0 R x.1 x.2.1 x.2.2.1 x.2.2.2.1) (n := a.length) (test := fun i => p_laws_eqPlace R (a.getD i (0, 0)).1 (a.getD i (0, 0)).2 (b.getD i (0, 0)).1 (b.getD i (0, 0)).2) (mk := fun i => (a, b, (i : Int), false, ()))
      (oT := .inr (false, ())) (oF := fun _ => .inl (false, ()))
      (fun i hi => by
        simp only [st_laws_eqPlaceS_w_0, Int.toNat_natCast]
        have h1 : decide ((i : Int) < (a.length : Int)) = true := by simpa using hi
        have h2 : decide (0 ≤ (i : Int)) = true := by simp
        rw [← hab, h1, h2, wrap_succ (by omega)]
        cases p_laws_eqPlace R (a.getD i (0, 0)).1 (a.getD i (0, 0)).2 (b.getD i (0, 0)).1 (b.getD i (0, 0)).2 <;> rfl)
      (by simp only [st_laws_eqPlaceS_w_0]; simp [brT])
    have e : c0_laws_eqPlaceS_w R a b = runW (fun x => st_laws_eqPlaceS_w_0 R x.1 x.2.1 x.2.2.1 x.2.2.2.1) (a, b, ((0 : Nat) : Int), false, ()) := rfl
    rw [hne, hd]
    rcases h with ⟨h1, h2⟩ | ⟨j, hj, h1, h2⟩
    · rw [e, h2]
      refine ⟨rfl, ?_⟩
      show true = _
      symm
      rw [Bool.true_and, List.all_eq_true]
      intro i hi
      exact h1 i (List.mem_range.1 hi)
    · rw [e, h2]
      refine ⟨rfl, ?_⟩
      show false = _
      symm
      rw [Bool.true_and]
      cases hx : (List.range a.length).all fun i => p_laws_eqPlace R (a.getD i (0, 0)).1 (a.getD i (0, 0)).2 (b.getD i (0, 0)).1 (b.getD i (0, 0)).2
      · rfl
      · have := List.all_eq_true.1 hx j (List.mem_range.2 hj)
        rw [h1] at this; cases this
  · have hne : ((a.length : Int) != (b.length : Int)) = true := bne_iff_ne.2 (by omega)
    have hd : decide ((a.length : Int) = (b.length : Int)) = false := decide_eq_false (by omega)
    rw [hne, hd]
    exact ⟨rfl, rfl⟩
end Go.Dv
namespace Go.Proofs.YtbgpobiaaebbeaaDoor
open Go Go.Cv Go.Dv
theorem ok_laws_eqPlaceS : OkFn Tryd.prog 19 (S_laws_eqPlaceS R) := ok_words ok_laws_eqPlaceS_w fun x hx => by
  obtain ⟨h1, h2⟩ := eqPlaceS_words x.1 x.2.1 (by simpa using hx)
  exact ⟨h1, by unfold F_laws_eqPlaceS_w; rw [h2]⟩
end Go.Proofs.YtbgpobiaaebbeaaDoor
