/- Shared points and boxes: both texts are the same. -/
import Derived.Test.YthploccngbfmpaaGreatLj
set_option linter.unusedSimpArgs false
namespace Go.Dv
open Go.Cv
open Ieee

theorem pointsShared_eq (k : Int) (a b f : Nat) (l : List (Nat × Nat)) (w : Int) (hl : l.length ≤ 1048576) : p_impl_PointsShared R k a b f l w = p_spec_PointsShared R k a b f l w ∧ r_impl_PointsShared R k a b f l w = true ∧ r_spec_PointsShared R k a b f l w = true ∧ (p_spec_PointsShared R k a b f l w).1.length ≤ 64 := by
  unfold p_impl_PointsShared p_spec_PointsShared r_impl_PointsShared r_spec_PointsShared c0_impl_PointsShared c0_spec_PointsShared p_impl_isWorkers
  obtain ⟨q1, q2, q3, q4⟩ := pointsOf_eq k a b f l hl
  have hw : p_impl_within R w 1 8 = p_spec_l00In R w 1 8 := rfl
  rw [q1, q2, hw, decide_eq_true (show l.length < 4611686018427387904 by omega)]
  unfold p_spec_PointsOf c0_spec_PointsOf at q4 ⊢
  unfold r_spec_PointsOf c0_spec_PointsOf at q3
  cases hm : p_spec_l03Is R k a b f
  · cases p_spec_l00In R w 1 8 <;> exact ⟨rfl, rfl, rfl, Nat.zero_le _⟩
  cases hv : ((l.all fun x => p_impl_ValidPlace R x.fst x.snd) && (decide (1 ≤ l.length) && decide (l.length ≤ 64)))
  · cases p_spec_l00In R w 1 8 <;> exact ⟨rfl, rfl, rfl, Nat.zero_le _⟩
  have hv2 := hv
  simp only [Bool.and_eq_true, decide_eq_true_eq] at hv2
  obtain ⟨e1, e2⟩ := spec_points k a b f l hv2.2.2
  rw [hm, hv, e1] at q4
  cases p_spec_l00In R w 1 8
  · exact ⟨rfl, rfl, rfl, Nat.zero_le _⟩
  · rw [e1, e2]
    simp only [Bool.not_true, cond_false, beq_self, Bool.and_self, true_and, and_self] at q4 ⊢
    exact q4

theorem law_PointsShared (k : Int) (a b f : Nat) (l : List (Nat × Nat)) (w : Int) (h : l.length ≤ 9223372036854775807) : r_laws_FnExactPointsShared R k a b f l w = true ∧ p_laws_FnExactPointsShared R k a b f l w = true := by
  unfold r_laws_FnExactPointsShared p_laws_FnExactPointsShared
  have e0 : c0_laws_FnExactPointsShared R k a b f l w = p_laws_szPlaceS R l 1048576 := rfl
  cases hs : decide (p_laws_szPlaceS R l 1048576 < 0)
  · have hl := sz_small h hs
    obtain ⟨q1, q2, q3, q4⟩ := pointsShared_eq k a b f l w hl
    have e1 : c1_laws_FnExactPointsShared R k a b f l w = (k, a, b, f) := rfl
    have e2 : c2_laws_FnExactPointsShared R k a b f l w = p_spec_PointsShared R k a b f l w := q1
    have e3 : c3_laws_FnExactPointsShared R k a b f l w = p_spec_PointsShared R k a b f l w := rfl
    obtain ⟨g1, g2⟩ := eqC_refl (p_spec_PointsShared R k a b f l w).1 (by omega)
    obtain ⟨m1, m2⟩ := markC (p_spec_PointsShared R k a b f l w).1 (by omega)
    obtain ⟨w1, w2⟩ := heldC (p_spec_PointsShared R k a b f l w).1 (by omega)
    obtain ⟨p1, p2'⟩ := markPl l (by omega)
    have e4 : c4_laws_FnExactPointsShared R k a b f l w = (((1 + (p_spec_PointsShared R k a b f l w).1.length : Nat) : Int), markUp (p_spec_PointsShared R k a b f l w).1 (p_spec_PointsShared R k a b f l w).1.length) := by unfold c4_laws_FnExactPointsShared; rw [e2]; exact m1
    have e5 : c5_laws_FnExactPointsShared R k a b f l w = ((1 + (p_spec_PointsShared R k a b f l w).1.length : Nat) : Int) := by unfold c5_laws_FnExactPointsShared; rw [e4]; exact w1
    have n1 : decide (((1 + (p_spec_PointsShared R k a b f l w).1.length : Nat) : Int) < 0) = false := decide_eq_false (by omega)
    have n2 : decide (((1 + 2 * l.length : Nat) : Int) < 0) = false := decide_eq_false (by omega)
    simp only [e0, hs, e1, e2, e3, e4, e5, q2, q3, g1, g2, m2, w2, p1, p2', n1, n2, eqPlaceS_refl, beq_self, markUp_length, bne_self_eq_false, decide_eq_true (show l.length ≤ 1073741824 by omega), decide_eq_true (show l.length < 4611686018427387904 by omega), Bool.not_true, cond_false, Bool.and_self, and_self]
  · rw [e0, hs]; exact ⟨rfl, rfl⟩

/-! ### boxes -/
noncomputable def boxStep (B : Nat × Nat × Nat × Nat) (z : Nat × Nat) : Nat × Nat × Nat × Nat :=
  (bif R.cmp .lss .f32 z.1 B.1 then z.1 else B.1, bif R.cmp .gtr .f32 z.1 B.2.1 then z.1 else B.2.1, bif R.cmp .lss .f32 z.2 B.2.2.1 then z.2 else B.2.2.1, bif R.cmp .gtr .f32 z.2 B.2.2.2 then z.2 else B.2.2.2)
noncomputable def boxUp (l : List (Nat × Nat)) : Nat → Nat × Nat × Nat × Nat
  | 0 => ((l.getD 0 (0, 0)).1, (l.getD 0 (0, 0)).1, (l.getD 0 (0, 0)).2, (l.getD 0 (0, 0)).2)
  | i + 1 => boxStep (boxUp l i) (l.getD i (0, 0))

theorem impl_box (l : List (Nat × Nat)) (h0 : 1 ≤ l.length) (h : l.length ≤ 2 ^ 60) : p_impl_box R l = ((boxUp l l.length).1, (boxUp l l.length).2.2.1, (boxUp l l.length).2.1, (boxUp l l.length).2.2.2) ∧ r_impl_box R l = true := by
  have hw := runW_count (step := fun x => st_impl_box_0 R x.1 x.2.1 x.2.2.1 x.2.2.2.1 x.2.2.2.2.1 x.2.2.2.2.2.1 x.2.2.2.2.2.2.1 x.2.2.2.2.2.2.2.1.1 x.2.2.2.2.2.2.2.1.2 x.2.2.2.2.2.2.2.2.1.1 x.2.2.2.2.2.2.2.2.1.2) (n := l.length)
    (mk := fun i => ((boxUp l i).1, (boxUp l i).2.1, (boxUp l i).2.2.1, (boxUp l i).2.2.2, l, (l.length : Int), (i : Int), (0, 0), (0, 0), ())) (o := ((boxUp l l.length).1, (boxUp l l.length).2.1, (boxUp l l.length).2.2.1, (boxUp l l.length).2.2.2, (0, 0), (0, 0), ()))
    (fun i hi => by
      have hU : boxUp l (i + 1) = boxStep (boxUp l i) (l.getD i (0, 0)) := rfl
      simp only [st_impl_box_0]
      rw [wrap_succ (by omega), idx_ok hi, idx_in hi, Int.toNat_natCast, hU]
      unfold boxStep
      generalize boxUp l i = B
      generalize l.getD i (0, 0) = z
      generalize R.cmp .lss .f32 z.1 B.1 = t1
      generalize R.cmp .gtr .f32 z.1 B.2.1 = t2
      generalize R.cmp .lss .f32 z.2 B.2.2.1 = t3
      generalize R.cmp .gtr .f32 z.2 B.2.2.2 = t4
      cases t1 <;> cases t2 <;> cases t3 <;> cases t4 <;> rfl)
    (by
      simp only [st_impl_box_0]
      rw [idx_out]
      rfl)
  have e : c0_impl_box R l = some ((boxUp l l.length).1, (boxUp l l.length).2.1, (boxUp l l.length).2.2.1, (boxUp l l.length).2.2.2, (0, 0), (0, 0), ()) := hw
  have hp : decide (0 < (l.length : Int)) = true := decide_eq_true (by omega)
  unfold p_impl_box r_impl_box
  rw [e, hp]
  exact ⟨rfl, rfl⟩

theorem spec_box (l : List (Nat × Nat)) (h : l.length ≤ 2 ^ 60) : runW (fun x => st_spec_MapBox_0 R x.1 x.2.1 x.2.2.1 x.2.2.2.1 x.2.2.2.2.1 x.2.2.2.2.2.1 x.2.2.2.2.2.2.1 x.2.2.2.2.2.2.2.1.1 x.2.2.2.2.2.2.2.1.2 x.2.2.2.2.2.2.2.2.1.1 x.2.2.2.2.2.2.2.2.1.2 x.2.2.2.2.2.2.2.2.2.1) (l, (boxUp l 0).1, (boxUp l 0).2.1, (boxUp l 0).2.2.1, (boxUp l 0).2.2.2, (l.length : Int), ((0 : Nat) : Int), (0, 0), (0, 0), false, ()) = some ((boxUp l l.length).1, (boxUp l l.length).2.1, (boxUp l l.length).2.2.1, (boxUp l l.length).2.2.2, (0, 0), (0, 0), false, ()) :=
  runW_count (step := fun x => st_spec_MapBox_0 R x.1 x.2.1 x.2.2.1 x.2.2.2.1 x.2.2.2.2.1 x.2.2.2.2.2.1 x.2.2.2.2.2.2.1 x.2.2.2.2.2.2.2.1.1 x.2.2.2.2.2.2.2.1.2 x.2.2.2.2.2.2.2.2.1.1 x.2.2.2.2.2.2.2.2.1.2 x.2.2.2.2.2.2.2.2.2.1) (n := l.length)
    (mk := fun i => (l, (boxUp l i).1, (boxUp l i).2.1, (boxUp l i).2.2.1, (boxUp l i).2.2.2, (l.length : Int), (i : Int), (0, 0), (0, 0), false, ()))
    (fun i hi => by
      have hU : boxUp l (i + 1) = boxStep (boxUp l i) (l.getD i (0, 0)) := rfl
      simp only [st_spec_MapBox_0]
      rw [wrap_succ (by omega), idx_ok hi, idx_in hi, Int.toNat_natCast, hU, blt_ok hi, beq_self]
      unfold boxStep
      generalize boxUp l i = B
      generalize l.getD i (0, 0) = z
      generalize R.cmp .lss .f32 z.1 B.1 = t1
      generalize R.cmp .gtr .f32 z.1 B.2.1 = t2
      generalize R.cmp .lss .f32 z.2 B.2.2.1 = t3
      generalize R.cmp .gtr .f32 z.2 B.2.2.2 = t4
      cases t1 <;> cases t2 <;> cases t3 <;> cases t4 <;> rfl)
    (by
      simp only [st_spec_MapBox_0]
      rw [idx_out]
      rfl)

theorem mapBox_eq (k : Int) (a b f : Nat) (l : List (Nat × Nat)) (hl : l.length ≤ 1048576) : p_impl_MapBox R k a b f l = p_spec_MapBox R k a b f l ∧ r_impl_MapBox R k a b f l = true ∧ r_spec_MapBox R k a b f l = true := by
  obtain ⟨q1, q2, q3, q4⟩ := pointsOf_eq k a b f l hl
  have i0 : c0_impl_MapBox R k a b f l = p_spec_PointsOf R k a b f l := q1
  unfold p_impl_MapBox p_spec_MapBox r_impl_MapBox r_spec_MapBox c1_impl_MapBox
  rw [i0, q2, decide_eq_true (show l.length < 4611686018427387904 by omega)]
  unfold p_spec_PointsOf c0_spec_PointsOf
  cases hm : p_spec_l03Is R k a b f
  · exact ⟨rfl, rfl, rfl⟩
  cases hv : ((l.all fun x => p_impl_ValidPlace R x.fst x.snd) && (decide (1 ≤ l.length) && decide (l.length ≤ 64)))
  · exact ⟨rfl, rfl, rfl⟩
  have hv2 := hv
  simp only [Bool.and_eq_true, decide_eq_true_eq] at hv2
  obtain ⟨e1, e2⟩ := spec_points k a b f l hv2.2.2
  have s0 : c0_spec_MapBox R k a b f l = ptsAll k a b f l := e1
  rw [e1, e2]
  simp only [Bool.not_true, cond_false]
  cases hs : (ptsAll k a b f l).snd
  · rw [s0, hs]; exact ⟨rfl, rfl, rfl⟩
  · have hlen : (ptsAll k a b f l).fst.length = l.length := by
      unfold ptsAll at hs ⊢
      cases hc : (List.range l.length).all fun i => (ptOf k a b f l i).2.2
      · rw [hc] at hs; cases hs
      · exact ptsUp_length k a b f l l.length
    have b1 := impl_box (ptsAll k a b f l).fst (by omega) (by omega)
    have b2 := spec_box (ptsAll k a b f l).fst (by omega)
    have c1 : c1_spec_MapBox R k a b f l = some ((boxUp (ptsAll k a b f l).fst (ptsAll k a b f l).fst.length).1, (boxUp (ptsAll k a b f l).fst (ptsAll k a b f l).fst.length).2.1, (boxUp (ptsAll k a b f l).fst (ptsAll k a b f l).fst.length).2.2.1, (boxUp (ptsAll k a b f l).fst (ptsAll k a b f l).fst.length).2.2.2, (0, 0), (0, 0), false, ()) := by
      unfold c1_spec_MapBox
      rw [s0]
      exact b2
    have d1 : decide (0 < ((ptsAll k a b f l).fst.length : Int)) = true := decide_eq_true (by omega)
    have d2 : Nat.blt 0 (ptsAll k a b f l).fst.length = true := blt_ok (by omega)
    rw [s0, hs, c1, b1.1, b1.2, d1, d2, beq_self]
    exact ⟨rfl, rfl, rfl⟩

theorem law_MapBox (k : Int) (a b f : Nat) (l : List (Nat × Nat)) (h : l.length ≤ 9223372036854775807) : r_laws_FnExactMapBox R k a b f l = true ∧ p_laws_FnExactMapBox R k a b f l = true := by
  unfold r_laws_FnExactMapBox p_laws_FnExactMapBox
  have e0 : c0_laws_FnExactMapBox R k a b f l = p_laws_szPlaceS R l 1048576 := rfl
  cases hs : decide (p_laws_szPlaceS R l 1048576 < 0)
  · have hl := sz_small h hs
    obtain ⟨q1, q2, q3⟩ := mapBox_eq k a b f l hl
    have e1 : c1_laws_FnExactMapBox R k a b f l = (k, a, b, f) := rfl
    have e2 : c2_laws_FnExactMapBox R k a b f l = p_spec_MapBox R k a b f l := q1
    have e3 : c3_laws_FnExactMapBox R k a b f l = p_spec_MapBox R k a b f l := rfl
    simp only [e0, hs, e1, e2, e3, q2, q3, sameComplex_refl, eqPlaceS_refl, beq_self, bne_self_eq_false, decide_eq_true (show l.length ≤ 1073741824 by omega), decide_eq_true (show l.length < 4611686018427387904 by omega), Bool.not_true, cond_false, Bool.and_self, and_self]
  · rw [e0, hs]; exact ⟨rfl, rfl⟩
end Go.Dv
