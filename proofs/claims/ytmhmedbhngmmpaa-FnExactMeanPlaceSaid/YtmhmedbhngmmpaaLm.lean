/- The plain law of means of places. -/
import Derived.Test.YtmhmedbhngmmpaaLp
import Derived.Test.YtmhmedbhngmmpaaWm
namespace Go.Dv
open Go.Cv

def meanSum (l : List (Nat × Nat)) : Nat → Nat × Nat × Nat
  | 0 => (0, 0, 0)
  | i + 1 => p_spec_l02Add R (meanSum l i).1 (meanSum l i).2.1 (meanSum l i).2.2 (p_spec_l02Way R (l.getD i (0, 0)).1 (l.getD i (0, 0)).2).1 (p_spec_l02Way R (l.getD i (0, 0)).1 (l.getD i (0, 0)).2).2.1 (p_spec_l02Way R (l.getD i (0, 0)).1 (l.getD i (0, 0)).2).2.2

theorem mean_spec (l : List (Nat × Nat)) (hl : l.length ≤ 64) : c0_spec_MeanPlace R l = some ((), 0, 0, (), (meanSum l l.length).1, (meanSum l l.length).2.1, (meanSum l l.length).2.2, false, ()) :=
  runW_count (n := l.length) (mk := fun i => (l, (), (meanSum l i).1, (meanSum l i).2.1, (meanSum l i).2.2, (i : Int), (), 0, 0, false, ()))
    (fun i hi => by
      simp only [st_spec_MeanPlace_0, Int.toNat_natCast]
      have h1 : decide ((i : Int) < (l.length : Int)) = true := decide_eq_true (by omega)
      have h2 : decide (0 ≤ (i : Int)) = true := by simp
      rw [h1, h2, wrap_succ (by omega)]
      rfl)
    (by simp only [st_spec_MeanPlace_0]; simp [brT])

theorem mean_impl (l : List (Nat × Nat)) (hl : l.length ≤ 64) : c0_impl_MeanPlace R l = some ((), 0, 0, (), (meanSum l l.length).1, (meanSum l l.length).2.1, (meanSum l l.length).2.2, false, ()) :=
  runW_count (n := l.length) (mk := fun i => ((), (meanSum l i).1, (meanSum l i).2.1, (meanSum l i).2.2, l, (l.length : Int), (i : Int), (), 0, 0, false, ()))
    (fun i hi => by
      simp only [st_impl_MeanPlace_0, Int.toNat_natCast, add_eq, way_eq]
      have h1 : decide ((i : Int) < (l.length : Int)) = true := decide_eq_true (by omega)
      have h2 : decide (0 ≤ (i : Int)) = true := by simp
      rw [h1, h2, wrap_succ (by omega)]
      rfl)
    (by simp only [st_impl_MeanPlace_0]; simp [brT])

theorem mean_eq (l : List (Nat × Nat)) : p_impl_MeanPlace R l = p_spec_MeanPlace R l := by
  unfold p_impl_MeanPlace p_spec_MeanPlace
  cases hv : ((l.all fun x => p_impl_ValidPlace R x.fst x.snd) && (decide (1 ≤ l.length) && decide (l.length ≤ 64)))
  · rfl
  · have hv' := hv
    simp only [Bool.and_eq_true, decide_eq_true_eq] at hv'
    unfold c1_impl_MeanPlace c1_spec_MeanPlace
    rw [mean_spec l hv'.2.2, mean_impl l hv'.2.2, from_eq]
theorem mean_ok (l : List (Nat × Nat)) (hl : l.length ≤ 1073741824) : r_spec_MeanPlace R l = true ∧ r_impl_MeanPlace R l = true := by
  unfold r_spec_MeanPlace r_impl_MeanPlace
  rw [decide_eq_true (show l.length < 4611686018427387904 by omega)]
  cases hv : ((l.all fun x => p_impl_ValidPlace R x.fst x.snd) && (decide (1 ≤ l.length) && decide (l.length ≤ 64)))
  · exact ⟨rfl, rfl⟩
  · simp only [Bool.and_eq_true, decide_eq_true_eq] at hv
    rw [mean_spec l hv.2.2, mean_impl l hv.2.2]
    exact ⟨rfl, rfl⟩

theorem law_MeanPlace (l : List (Nat × Nat)) (h : l.length ≤ 9223372036854775807) : r_laws_FnExactMeanPlace R l = true ∧ p_laws_FnExactMeanPlace R l = true := by
  unfold r_laws_FnExactMeanPlace p_laws_FnExactMeanPlace c0_laws_FnExactMeanPlace c1_laws_FnExactMeanPlace c2_laws_FnExactMeanPlace
  cases hs : decide (p_laws_szPlaceS R l 1048576 < 0)
  · have hl := sz_small h hs
    obtain ⟨h1, h2⟩ := mean_ok l (by omega)
    rw [h1, h2, mean_eq, eqPlace_refl, eqPlaceS_refl, decide_eq_true (show l.length ≤ 1073741824 by omega), decide_eq_true (show l.length < 4611686018427387904 by omega)]
    simp
  · exact ⟨rfl, rfl⟩
end Go.Dv
