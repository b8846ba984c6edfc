/- The plain law of areas and lengths of lists of places. -/
import Derived.Test.YthploccngbfmpaaGreatLw
import Derived.Test.YthploccngbfmpaaGreatWf
import Derived.Test.YthploccngbfmpaaGreatLo
namespace Go.Dv
open Go.Cv

theorem number_eq (x : Nat) : p_impl_finite R x true = p_spec_l02Number R x := by
  unfold p_impl_finite p_spec_l02Number
  rw [fin_same]; rfl
theorem triangle_eq (a b c d e f : Nat) : p_impl_triangle R a b c d e f = p_spec_l02Triangle R a b c d e f := by
  unfold p_impl_triangle p_spec_l02Triangle c3_impl_triangle c3_spec_l02Triangle c0_impl_triangle c1_impl_triangle c2_impl_triangle c0_spec_l02Triangle c1_spec_l02Triangle c2_spec_l02Triangle
  rw [way_eq, way_eq, way_eq, ang_eq]; rfl

theorem eqPlaceS_refl (l : List (Nat × Nat)) : p_laws_eqPlaceS R l l = true := by
  unfold p_laws_eqPlaceS
  rw [decide_eq_true rfl, Bool.true_and, List.all_eq_true]
  exact fun i _ => eqPlace_refl _ _

/-! ### areas -/
theorem area_step : st_impl_AreaOfPlaces_0 R = st_spec_AreaOfPlaces_0 R := by
  funext v0 v1 v2 v3 v4
  unfold st_impl_AreaOfPlaces_0 st_spec_AreaOfPlaces_0
  simp only [triangle_eq]
theorem area_W : W_impl_AreaOfPlaces_0 R = W_spec_AreaOfPlaces_0 R := by unfold W_impl_AreaOfPlaces_0 W_spec_AreaOfPlaces_0; rw [area_step]
theorem area_eq (l : List (Nat × Nat)) : p_impl_AreaOfPlaces R l = p_spec_AreaOfPlaces R l := by
  unfold p_impl_AreaOfPlaces p_spec_AreaOfPlaces c1_impl_AreaOfPlaces c1_spec_AreaOfPlaces c0_impl_AreaOfPlaces c0_spec_AreaOfPlaces
  rw [area_W, number_eq]
theorem area_req (l : List (Nat × Nat)) : r_impl_AreaOfPlaces R l = r_spec_AreaOfPlaces R l := by
  unfold r_impl_AreaOfPlaces r_spec_AreaOfPlaces c0_impl_AreaOfPlaces c0_spec_AreaOfPlaces
  rw [area_W]

def areaSum (l : List (Nat × Nat)) : Nat → Nat
  | 0 => 0
  | i + 1 => R.bin .add .f32 (areaSum l i) (p_spec_l02Triangle R (l.getD 0 (0, 0)).1 (l.getD 0 (0, 0)).2 (l.getD (i + 1) (0, 0)).1 (l.getD (i + 1) (0, 0)).2 (l.getD (i + 2) (0, 0)).1 (l.getD (i + 2) (0, 0)).2)

theorem area_ends (l : List (Nat × Nat)) (hl : l.length ≤ 64) (h1 : 1 ≤ l.length) : (c0_spec_AreaOfPlaces R l).isSome = true := by
  have h := runW_count (step := fun x => st_spec_AreaOfPlaces_0 R x.1 x.2.1 x.2.2.1 x.2.2.2.1 x.2.2.2.2.1) (n := l.length - 2) (mk := fun i => (l, areaSum l i, ((i + 1 : Nat) : Int), 0, false, ())) (o := (areaSum l (l.length - 2), 0, false, ()))
    (fun i hi => by
      simp only [st_spec_AreaOfPlaces_0]
      rw [wrap_succ (by omega)]
      have a1 : decide (((i + 1 + 1 : Nat) : Int) < (l.length : Int)) = true := decide_eq_true (by omega)
      have a2 : decide (0 < (l.length : Int)) = true := decide_eq_true (by omega)
      have a3 : (decide (0 ≤ ((i + 1 : Nat) : Int)) && decide (((i + 1 : Nat) : Int) < (l.length : Int))) = true := by rw [decide_eq_true (by omega), decide_eq_true (by omega)]; rfl
      have a4 : (decide (0 ≤ ((i + 1 + 1 : Nat) : Int)) && decide (((i + 1 + 1 : Nat) : Int) < (l.length : Int))) = true := by rw [decide_eq_true (by omega), decide_eq_true (by omega)]; rfl
      rw [a4, a1, a2, a3]
      rfl)
    (by
      simp only [st_spec_AreaOfPlaces_0]
      rw [wrap_succ (by omega)]
      have a1 : decide (((l.length - 2 + 1 + 1 : Nat) : Int) < (l.length : Int)) = false := decide_eq_false (by omega)
      rw [a1]
      rfl)
  have e : c0_spec_AreaOfPlaces R l = runW (fun x => st_spec_AreaOfPlaces_0 R x.1 x.2.1 x.2.2.1 x.2.2.2.1 x.2.2.2.2.1) (l, areaSum l 0, ((0 + 1 : Nat) : Int), 0, false, ()) := rfl
  rw [e, h]; rfl

theorem area_ok (l : List (Nat × Nat)) (hl : l.length ≤ 1073741824) : r_spec_AreaOfPlaces R l = true := by
  unfold r_spec_AreaOfPlaces
  rw [decide_eq_true (by omega)]
  cases hv : ((l.all fun x => p_impl_ValidPlace R x.fst x.snd) && (decide (1 ≤ l.length) && decide (l.length ≤ 64)))
  · rfl
  · simp only [Bool.and_eq_true, decide_eq_true_eq] at hv
    rw [area_ends l hv.2.2 hv.2.1]; rfl

theorem sz_small {l : List (Nat × Nat)} (h : l.length ≤ 9223372036854775807) (hs : decide (p_laws_szPlaceS R l 1048576 < 0) = false) : l.length ≤ 1048576 := by
  have hs := of_decide_eq_false hs
  unfold p_laws_szPlaceS at hs
  rw [wrap_small (by omega) (by omega)] at hs
  cases hd : decide ((1048576 : Int) - (l.length : Int) < 0)
  · have := of_decide_eq_false hd; omega
  · rw [hd] at hs
    exact absurd (by decide : (Int.negSucc 0) < 0) hs

theorem law_AreaOfPlaces (l : List (Nat × Nat)) (h : l.length ≤ 9223372036854775807) : r_laws_FnExactAreaOfPlaces R l = true ∧ p_laws_FnExactAreaOfPlaces R l = true := by
  unfold r_laws_FnExactAreaOfPlaces p_laws_FnExactAreaOfPlaces c0_laws_FnExactAreaOfPlaces c1_laws_FnExactAreaOfPlaces c2_laws_FnExactAreaOfPlaces
  cases hs : decide (p_laws_szPlaceS R l 1048576 < 0)
  · have hl := sz_small h hs
    rw [area_req, area_ok l (by omega), area_eq, sameFloat_refl, eqPlaceS_refl, decide_eq_true (show l.length ≤ 1073741824 by omega), decide_eq_true (show l.length < 4611686018427387904 by omega)]
    simp
  · exact ⟨rfl, rfl⟩

/-! ### lengths -/
theorem longP_step : st_impl_LongOfPlaces_0 R = st_spec_LongOfPlaces_0 R := by
  funext v0 v1 v2 v3 v4 v5
  unfold st_impl_LongOfPlaces_0 st_spec_LongOfPlaces_0
  simp only [apart_eq]
theorem longP_W : W_impl_LongOfPlaces_0 R = W_spec_LongOfPlaces_0 R := by unfold W_impl_LongOfPlaces_0 W_spec_LongOfPlaces_0; rw [longP_step]
theorem longP_eq (l : List (Nat × Nat)) (c : Bool) : p_impl_LongOfPlaces R l c = p_spec_LongOfPlaces R l c := by
  unfold p_impl_LongOfPlaces p_spec_LongOfPlaces c1_impl_LongOfPlaces c1_spec_LongOfPlaces c2_impl_LongOfPlaces c2_spec_LongOfPlaces c0_impl_LongOfPlaces c0_spec_LongOfPlaces
  rw [longP_W, number_eq, number_eq, apart_eq]
theorem longP_req (l : List (Nat × Nat)) (c : Bool) : r_impl_LongOfPlaces R l c = r_spec_LongOfPlaces R l c := by
  unfold r_impl_LongOfPlaces r_spec_LongOfPlaces c0_impl_LongOfPlaces c0_spec_LongOfPlaces
  rw [longP_W]

def longSum (l : List (Nat × Nat)) : Nat → Nat
  | 0 => 0
  | i + 1 => R.bin .add .f32 (longSum l i) (p_spec_l02Apart R (l.getD i (0, 0)).1 (l.getD i (0, 0)).2 (l.getD (i + 1) (0, 0)).1 (l.getD (i + 1) (0, 0)).2)

theorem longP_run (l : List (Nat × Nat)) (c : Bool) (hl : l.length ≤ 64) (h1 : 1 ≤ l.length) : c0_spec_LongOfPlaces R l c = some (l, c, longSum l (l.length - 1), 0, false, ()) := by
  have h := runW_count (step := fun x => st_spec_LongOfPlaces_0 R x.1 x.2.1 x.2.2.1 x.2.2.2.1 x.2.2.2.2.1 x.2.2.2.2.2.1) (n := l.length - 1) (mk := fun i => (l, longSum l i, ((i + 1 : Nat) : Int), c, 0, false, ())) (o := (l, c, longSum l (l.length - 1), 0, false, ()))
    (fun i hi => by
      simp only [st_spec_LongOfPlaces_0]
      have e1 : IntKind.i64.wrap (((i + 1 : Nat) : Int) - 1) = (i : Int) := by rw [wrap_small (by omega) (by omega)]; omega
      rw [wrap_succ (by omega), e1]
      have a1 : decide (((i + 1 : Nat) : Int) < (l.length : Int)) = true := decide_eq_true (by omega)
      have a2 : (decide (0 ≤ (i : Int)) && decide ((i : Int) < (l.length : Int))) = true := by rw [decide_eq_true (by omega), decide_eq_true (by omega)]; rfl
      have a3 : (decide (0 ≤ ((i + 1 : Nat) : Int)) && true) = true := by rw [decide_eq_true (by omega)]; rfl
      rw [a2, a1, a3]
      rfl)
    (by
      simp only [st_spec_LongOfPlaces_0]
      have a1 : decide (((l.length - 1 + 1 : Nat) : Int) < (l.length : Int)) = false := decide_eq_false (by omega)
      rw [a1]
      rfl)
  exact h

theorem longP_ok (l : List (Nat × Nat)) (c : Bool) (hl : l.length ≤ 1073741824) : r_spec_LongOfPlaces R l c = true := by
  unfold r_spec_LongOfPlaces
  rw [decide_eq_true (by omega)]
  cases hv : ((l.all fun x => p_impl_ValidPlace R x.fst x.snd) && (decide (1 ≤ l.length) && decide (l.length ≤ 64)))
  · rfl
  · simp only [Bool.and_eq_true, decide_eq_true_eq] at hv
    rw [longP_run l c hv.2.2 hv.2.1]
    have e := wrap_small (i := (l.length : Int) - 1) (by omega) (by omega)
    have a1 : (decide (0 ≤ IntKind.i64.wrap ((l.length : Int) - 1)) && decide (IntKind.i64.wrap ((l.length : Int) - 1) < (l.length : Int))) = true := by
      rw [decide_eq_true (by rw [e]; omega), decide_eq_true (by rw [e]; omega)]; rfl
    have a2 : decide (0 < (l.length : Int)) = true := decide_eq_true (by omega)
    cases c
    · rfl
    · show (true && (true && ((decide (0 ≤ IntKind.i64.wrap ((l.length : Int) - 1)) && decide (IntKind.i64.wrap ((l.length : Int) - 1) < (l.length : Int))) && (decide (0 < (l.length : Int)) && true)))) = true
      rw [a1, a2]; rfl

theorem law_LongOfPlaces (l : List (Nat × Nat)) (c : Bool) (h : l.length ≤ 9223372036854775807) : r_laws_FnExactLongOfPlaces R l c = true ∧ p_laws_FnExactLongOfPlaces R l c = true := by
  unfold r_laws_FnExactLongOfPlaces p_laws_FnExactLongOfPlaces c0_laws_FnExactLongOfPlaces c1_laws_FnExactLongOfPlaces c2_laws_FnExactLongOfPlaces
  cases hs : decide (p_laws_szPlaceS R l 1048576 < 0)
  · have hl := sz_small h hs
    rw [longP_req, longP_ok l c (by omega), longP_eq, sameFloat_refl, eqPlaceS_refl, decide_eq_true (show l.length ≤ 1073741824 by omega), decide_eq_true (show l.length < 4611686018427387904 by omega)]
    simp
  · exact ⟨rfl, rfl⟩
end Go.Dv
