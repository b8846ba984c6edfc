/- Lines on a map: norths, easts and ways. -/
import Derived.Test.YtbgpobiaaebbeaaGreatLv
import Derived.Test.YtbgpobiaaebbeaaGreatLj
import Derived.Test.YtbgpobiaaebbeaaGreatLp
import Derived.Test.YtbgpobiaaebbeaaGreatWv
set_option linter.unusedSimpArgs false
set_option linter.unusedVariables false
namespace Go.Dv
open Go.Cv
open Ieee

/-! ### places step by step -/
def plUp (PL : Nat → Nat × Nat × Bool) : Nat → List (Nat × Nat)
  | 0 => []
  | i + 1 => plUp PL i ++ [((PL i).1, (PL i).2.1)]
theorem plUp_length (PL : Nat → Nat × Nat × Bool) : ∀ i, (plUp PL i).length = i
  | 0 => rfl
  | i + 1 => by rw [plUp, List.length_append, plUp_length PL i]; rfl
theorem plUp_get (PL : Nat → Nat × Nat × Bool) : ∀ i j, j < i → (plUp PL i).getD j (0, 0) = ((PL j).1, (PL j).2.1)
  | 0, j, h => by omega
  | i + 1, j, h => by
    have hl := plUp_length PL i
    rw [plUp]
    by_cases e : j = i
    · subst e
      rw [List.getD_eq_getElem?_getD, List.getElem?_append_right (by omega), hl, Nat.sub_self]; rfl
    · rw [← plUp_get PL i j (by omega), List.getD_eq_getElem?_getD, List.getD_eq_getElem?_getD, List.getElem?_append_left (by omega)]

noncomputable def ptL (k : Int) (a b f : Nat) (PL : Nat → Nat × Nat × Bool) (i : Nat) : Nat × Nat × Bool := p_spec_PointOf R k a b f (PL i).1 (PL i).2.1
noncomputable def zUp (k : Int) (a b f : Nat) (PL : Nat → Nat × Nat × Bool) : Nat → List (Nat × Nat)
  | 0 => []
  | i + 1 => zUp k a b f PL i ++ [((ptL k a b f PL i).1, (ptL k a b f PL i).2.1)]
theorem zUp_length (k : Int) (a b f : Nat) (PL : Nat → Nat × Nat × Bool) : ∀ i, (zUp k a b f PL i).length = i
  | 0 => rfl
  | i + 1 => by rw [zUp, List.length_append, zUp_length k a b f PL i]; rfl
noncomputable def tst (k : Int) (a b f : Nat) (PL : Nat → Nat × Nat × Bool) (i : Nat) : Bool := (PL i).2.2 && (ptL k a b f PL i).2.2
noncomputable def lineZ (k : Int) (a b f : Nat) (PL : Nat → Nat × Nat × Bool) (n : Nat) : List (Nat × Nat) × Bool :=
  bif (List.range n).all (tst k a b f PL) then (zUp k a b f PL n, true) else ([], false)
theorem lineZ_yes {k : Int} {a b f : Nat} {PL : Nat → Nat × Nat × Bool} {n : Nat} (h : ∀ i, i < n → tst k a b f PL i = true) : lineZ k a b f PL n = (zUp k a b f PL n, true) := by
  unfold lineZ
  have : (List.range n).all (tst k a b f PL) = true := by
    rw [List.all_eq_true]
    intro i hi
    exact h i (List.mem_range.1 hi)
  rw [this]; rfl
theorem lineZ_no {k : Int} {a b f : Nat} {PL : Nat → Nat × Nat × Bool} {n j : Nat} (hj : j < n) (h : tst k a b f PL j = false) : lineZ k a b f PL n = ([], false) := by
  unfold lineZ
  have : (List.range n).all (tst k a b f PL) = false := by
    refine Bool.eq_false_iff.2 fun hc => ?_
    rw [List.all_eq_true] at hc
    have := hc j (List.mem_range.2 hj)
    rw [h] at this; cases this
  rw [this]; rfl
/-- where all places are such: the points of the list -/
theorem lineZ_same {k : Int} {a b f : Nat} {PL : Nat → Nat × Nat × Bool} {n : Nat} (hm : p_spec_l03Is R k a b f = true) (hv : ∀ i, i < n → (PL i).2.2 = true ∧ p_spec_l02Is R (PL i).1 (PL i).2.1 = true) :
    lineZ k a b f PL n = ptsAll k a b f (plUp PL n) := by
  have hp : ∀ i, i < n → ptOf k a b f (plUp PL n) i = ptL k a b f PL i := fun i hi => by
    unfold ptOf ptL
    rw [plUp_get PL n i hi, pointOf_yes hm (hv i hi).2]
  have hz : ∀ i, i ≤ n → ptsUp k a b f (plUp PL n) i = zUp k a b f PL i := fun i => by
    induction i with
    | zero => intro _; rfl
    | succ i ih => intro hi; rw [ptsUp, zUp, ih (by omega), hp i (by omega)]
  by_cases hall : ∀ i, i < n → (ptL k a b f PL i).2.2 = true
  · rw [lineZ_yes (fun i hi => by unfold tst; rw [(hv i hi).1, hall i hi]; rfl), ptsAll_yes (fun i hi => by rw [plUp_length] at hi; rw [hp i hi]; exact hall i hi), plUp_length, hz n (Nat.le_refl _)]
  · have : ∃ j, j < n ∧ (ptL k a b f PL j).2.2 = false := by
      refine Classical.byContradiction fun hc => hall fun i hi => ?_
      cases h : (ptL k a b f PL i).2.2
      · exact (hc ⟨i, hi, h⟩).elim
      · rfl
    obtain ⟨j, hj, h⟩ := this
    rw [lineZ_no hj (by unfold tst; rw [h, Bool.and_false]), ptsAll_no (j := j) (by rw [plUp_length]; exact hj) (by rw [hp j hj]; exact h)]

/-! ### shares -/
noncomputable def qt (n i : Nat) : Nat := R.bin .quo .f32 (R.ofi .f32 (i : Int)) (R.ofi .f32 (IntKind.i64.wrap ((n : Int) - 1)))
noncomputable def PLw (n : Nat) (c d g q : Nat) (i : Nat) : Nat × Nat × Bool := p_impl_WayLine_1 R (qt n i) c d g q
theorem impl_line_w (k : Int) (a b f : Nat) (n : Nat) (c d g q : Nat) (h : n ≤ 64) (h2 : 2 ≤ n) (hm : p_spec_l03Is R k a b f = true) :
    p_impl_Map_line_w R k a b f (n : Int) c d g q = lineZ k a b f (PLw n c d g q) n ∧ r_impl_Map_line_w R k a b f (n : Int) c d g q = true := by
  have hw := runW_scan (step := fun x => st_impl_Map_line_w_0 R x.1 x.2.1.1.1 x.2.1.1.2 x.2.1.2.1.1 x.2.1.2.1.2 x.2.2.2.1 x.2.2.2.2.1 x.2.2.2.2.2.1 x.2.2.2.2.2.2.1 x.2.2.2.2.2.2.2.1 x.2.2.2.2.2.2.2.2.1 x.2.2.2.2.2.2.2.2.2.1 x.2.2.2.2.2.2.2.2.2.2.1 x.2.2.2.2.2.2.2.2.2.2.2.1) (n := n) (test := tst k a b f (PLw n c d g q))
    (mk := fun i => ((n : Int), ((c, d), (g, q), ()), (), k, a, b, f, zUp k a b f (PLw n c d g q) i, (n : Int), (i : Int), [], false, ())) (oT := .inr (zUp k a b f (PLw n c d g q) n, [], false, ())) (oF := fun _ => .inl ((), false, ()))
    (fun i hi => by
      have hb : ∀ x : Nat × Nat, (i + [x].length).ble 1073741824 = true := fun x => Nat.ble_eq_true_of_le (by simp; omega)
      simp only [st_impl_Map_line_w_0]
      rw [wrap_succ (by omega), idx_in hi, (pointOf_ok _ _ _ _ _ _).1, pointOf_eq, zUp_length, beq_self, beq_self, beq_self, hb]
      unfold tst
      show brT true (brT true (brT (!(PLw n c d g q i).2.2) _ (brT (!(ptL k a b f (PLw n c d g q) i).2.2) _ _)) _) _ = _
      cases (PLw n c d g q i).2.2 <;> cases (ptL k a b f (PLw n c d g q) i).2.2 <;> rfl)
    (by
      simp only [st_impl_Map_line_w_0]
      rw [idx_out, beq_self, beq_self]
      rfl)
  have hw1 : p_impl_within R (n : Int) 2 64 = true := by unfold p_impl_within; rw [decide_eq_true (show (2 : Int) ≤ n by omega), decide_eq_true (show (n : Int) ≤ 64 by omega)]; rfl
  unfold p_impl_Map_line_w r_impl_Map_line_w
  rw [map_eq, hm, hw1]
  rcases hw with ⟨t1, t2⟩ | ⟨j, t1, t2, t3⟩
  · have e : c0_impl_Map_line_w R k a b f (n : Int) c d g q = some (.inr (zUp k a b f (PLw n c d g q) n, [], false, ())) := t2
    rw [e, lineZ_yes t1]
    simp only [Option.getD_some, Option.isSome_some, isL, getR, Bool.not_true, cond_false, beq_self, Bool.and_self, and_self]
  · have e : c0_impl_Map_line_w R k a b f (n : Int) c d g q = some (.inl ((), false, ())) := t3
    rw [e, lineZ_no t1 t2]
    exact ⟨rfl, rfl⟩
theorem impl_line_w_no (k : Int) (a b f : Nat) (n : Int) (c d g q : Nat) (h : p_spec_l03Is R k a b f = false ∨ p_impl_within R n 2 64 = false) :
    p_impl_Map_line_w R k a b f n c d g q = ([], false) ∧ r_impl_Map_line_w R k a b f n c d g q = true := by
  unfold p_impl_Map_line_w r_impl_Map_line_w
  rw [map_eq]
  rcases h with h | h <;> rw [h]
  · exact ⟨rfl, rfl⟩
  · cases p_spec_l03Is R k a b f <;> exact ⟨rfl, rfl⟩

/-! ### norths -/
theorem count_within (c : Int) : p_spec_l03Count R c = p_impl_within R c 2 64 := rfl
theorem within_nat {c : Int} (h : p_impl_within R c 2 64 = true) : ∃ n : Nat, c = (n : Int) ∧ 2 ≤ n ∧ n ≤ 64 := by
  unfold p_impl_within at h
  by_cases h1 : (2 : Int) ≤ c
  · rw [decide_eq_true h1, cond_true] at h
    have h2 := of_decide_eq_true h
    exact ⟨c.toNat, by omega, by omega, by omega⟩
  · rw [decide_eq_false h1] at h; cases h

/-! ### easts -/
/-! ### ways -/
theorem valid_res {n e : Nat} {b : Bool} (h : (p_impl_valid R n e b).2.2 = true) : p_impl_ValidPlace R (p_impl_valid R n e b).1 (p_impl_valid R n e b).2.1 = true := by
  unfold p_impl_valid at h ⊢
  cases b
  · cases h
  · cases hv : p_impl_ValidPlace R n e <;> rw [hv] at h
    · cases h
    · exact hv
theorem share_valid {c d g q s : Nat} (h : (p_impl_ShareOfWay R c d g q s).2.2 = true) : p_impl_ValidPlace R (p_impl_ShareOfWay R c d g q s).1 (p_impl_ShareOfWay R c d g q s).2.1 = true := by
  unfold p_impl_ShareOfWay at h ⊢
  generalize (p_impl_ValidPlace R c d && (p_impl_ValidPlace R g q && true)) = t1 at *
  cases t1
  · cases h
  generalize p_impl_IsFinite R s = t2 at *
  cases t2
  · cases h
  simp only [Bool.not_true, cond_false] at h ⊢
  unfold c0_impl_ShareOfWay at h ⊢
  generalize p_impl_course R c d g q = u at *
  generalize R.bin .mul .f32 (p_impl_apart R c d g q) s = v at *
  unfold p_impl_GoFrom at h ⊢
  generalize p_impl_ValidPlace R c d = t1 at *
  cases t1
  · cases h
  generalize (p_impl_IsFinite R u && (p_impl_IsFinite R v && true)) = t2 at *
  cases t2
  · cases h
  simp only [Bool.not_true, cond_false] at h ⊢
  unfold c5_impl_GoFrom at h ⊢
  generalize c4_impl_GoFrom R c d u v = w at *
  unfold p_impl_PlaceOfWay at h ⊢
  generalize (c0_impl_PlaceOfWay R w.1 w.2.1 w.2.2) = t3 at *
  cases h3 : t3.2 <;> rw [h3] at h
  · cases h
  cases h4 : R.cmp .gtr .f32 t3.1 0 <;> rw [h4] at h
  · cases h
  simp only [Bool.not_true, cond_false] at h ⊢
  unfold c1_impl_PlaceOfWay at h ⊢
  exact valid_res h

theorem spec_list_w (k : Int) (a b f c d g q : Nat) (n : Nat) (h : n ≤ 64) :
    ((∀ i, i < n → (PLw n c d g q i).2.2 = true) ∧ c0_spec_WayLine R k a b f c d g q (n : Int) = some (.inr ((), k, a, b, f, plUp (PLw n c d g q) n, (), false, ()))) ∨
    (∃ j, j < n ∧ (PLw n c d g q j).2.2 = false ∧ c0_spec_WayLine R k a b f c d g q (n : Int) = some (.inl ((), false, ()))) := by
  have hs : ∀ i : Nat, p_spec_ShareOfWay R c d g q (p_spec_l03Quotient R (i : Int) (n : Int)) = PLw n c d g q i := fun i => by
    unfold PLw p_impl_WayLine_1 c0_impl_WayLine_1
    rw [share_eq]; rfl
  exact runW_scan (step := fun x => st_spec_WayLine_0 R x.1 x.2.2.1 x.2.2.2.1 x.2.2.2.2.2.1 x.2.2.2.2.2.2.1 x.2.2.2.2.2.2.2.1 x.2.2.2.2.2.2.2.2.1 x.2.2.2.2.2.2.2.2.2.2.1 x.2.2.2.2.2.2.2.2.2.2.2.1 x.2.2.2.2.2.2.2.2.2.2.2.2.1 x.2.2.2.2.2.2.2.2.2.2.2.2.2.1 x.2.2.2.2.2.2.2.2.2.2.2.2.2.2.2.1) (n := n) (test := fun i => (PLw n c d g q i).2.2)
    (mk := fun i => ((n : Int), (), c, d, (), g, q, plUp (PLw n c d g q) i, (i : Int), (), k, a, b, f, (), false, ())) (oT := .inr ((), k, a, b, f, plUp (PLw n c d g q) n, (), false, ())) (oF := fun _ => .inl ((), false, ()))
    (fun i hi => by
      have hb : ∀ x : Nat × Nat, (i + [x].length).ble 1073741824 = true := fun x => Nat.ble_eq_true_of_le (by simp; omega)
      simp only [st_spec_WayLine_0]
      rw [wrap_succ (by omega), idx_in hi, hs i, plUp_length, beq_self, beq_self, hb]
      cases (PLw n c d g q i).2.2 <;> rfl)
    (by
      simp only [st_spec_WayLine_0]
      rw [idx_out, beq_self]
      rfl)

theorem wayLine_eq (k : Int) (a b f c d g q : Nat) (m : Int) : p_impl_WayLine R k a b f c d g q m = p_spec_WayLine R k a b f c d g q m ∧ r_impl_WayLine R k a b f c d g q m = true ∧ r_spec_WayLine R k a b f c d g q m = true ∧ (p_spec_WayLine R k a b f c d g q m).1.length ≤ 64 := by
  unfold p_impl_WayLine r_impl_WayLine c0_impl_WayLine
  cases hm : p_spec_l03Is R k a b f
  · obtain ⟨e1, e2⟩ := impl_line_w_no k a b f m c d g q (.inl hm)
    rw [e1, e2]
    unfold p_spec_WayLine r_spec_WayLine
    rw [hm]
    exact ⟨rfl, rfl, rfl, Nat.zero_le _⟩
  cases hc : p_impl_within R m 2 64
  · obtain ⟨e1, e2⟩ := impl_line_w_no k a b f m c d g q (.inr hc)
    rw [e1, e2]
    unfold p_spec_WayLine r_spec_WayLine
    rw [hm, count_within, hc]
    cases p_spec_l02Is R c d <;> cases p_spec_l02Is R g q <;> exact ⟨rfl, rfl, rfl, Nat.zero_le _⟩
  obtain ⟨n, rfl, n2, n64⟩ := within_nat hc
  obtain ⟨e1, e2⟩ := impl_line_w k a b f n c d g q n64 n2 hm
  rw [e1, e2]
  have out : (p_impl_ValidPlace R c d && (p_impl_ValidPlace R g q && true)) = false → lineZ k a b f (PLw n c d g q) n = ([], false) := fun h => by
    refine lineZ_no (j := 0) (by omega) ?_
    have : PLw n c d g q 0 = (0, 0, false) := by
      unfold PLw p_impl_WayLine_1 c0_impl_WayLine_1 p_impl_ShareOfWay
      rw [h]; rfl
    unfold tst; rw [this]; rfl
  unfold p_spec_WayLine r_spec_WayLine c1_spec_WayLine
  rw [hm, count_within, hc]
  cases h1 : p_spec_l02Is R c d
  · rw [out (by rw [place_eq, h1]; rfl)]
    exact ⟨rfl, rfl, rfl, Nat.zero_le _⟩
  cases h2 : p_spec_l02Is R g q
  · rw [out (by rw [place_eq, place_eq, h1, h2]; rfl)]
    exact ⟨rfl, rfl, rfl, Nat.zero_le _⟩
  rcases spec_list_w k a b f c d g q n n64 with ⟨t1, t2⟩ | ⟨j, t1, t2, t3⟩
  · rw [t2]
    have hv : ∀ i, i < n → (PLw n c d g q i).2.2 = true ∧ p_spec_l02Is R (PLw n c d g q i).1 (PLw n c d g q i).2.1 = true := fun i hi => ⟨t1 i hi, by
      rw [← place_eq]
      exact share_valid (c := c) (d := d) (g := g) (q := q) (s := qt n i) (t1 i hi)⟩
    rw [lineZ_same hm hv]
    obtain ⟨s1, s2⟩ := spec_points k a b f (plUp (PLw n c d g q) n) (by rw [plUp_length]; exact n64)
    simp only [Option.getD_some, Option.isSome_some, isL, getR, s1, s2, Bool.not_true, cond_false, cond_true, beq_self, Bool.and_self, true_and]
    have := ptsAll_len k a b f (plUp (PLw n c d g q) n)
    rw [plUp_length] at this
    omega
  · rw [t3, lineZ_no t1 (by unfold tst; rw [t2]; rfl)]
    exact ⟨rfl, rfl, rfl, Nat.zero_le _⟩

/-! ### the laws -/
theorem law_WayLine (k : Int) (a b f c d g q : Nat) (m : Int) : r_laws_FnExactWayLine R k a b f c d g q m = true ∧ p_laws_FnExactWayLine R k a b f c d g q m = true := by
  obtain ⟨q1, q2, q3, q4⟩ := wayLine_eq k a b f c d g q m
  unfold r_laws_FnExactWayLine p_laws_FnExactWayLine
  have e0 : c0_laws_FnExactWayLine R k a b f c d g q m = (k, a, b, f) := rfl
  have d1 : c1_laws_FnExactWayLine R k a b f c d g q m = (c, d) := rfl
  have d2 : c2_laws_FnExactWayLine R k a b f c d g q m = (g, q) := rfl
  have e1 : c3_laws_FnExactWayLine R k a b f c d g q m = p_spec_WayLine R k a b f c d g q m := q1
  have e2 : c4_laws_FnExactWayLine R k a b f c d g q m = p_spec_WayLine R k a b f c d g q m := rfl
  obtain ⟨g1, g2⟩ := eqC_refl (p_spec_WayLine R k a b f c d g q m).1 (by omega)
  obtain ⟨m1, m2⟩ := markC (p_spec_WayLine R k a b f c d g q m).1 (by omega)
  obtain ⟨w1, w2⟩ := heldC (p_spec_WayLine R k a b f c d g q m).1 (by omega)
  have e4 : c5_laws_FnExactWayLine R k a b f c d g q m = (((1 + (p_spec_WayLine R k a b f c d g q m).1.length : Nat) : Int), markUp (p_spec_WayLine R k a b f c d g q m).1 (p_spec_WayLine R k a b f c d g q m).1.length) := by unfold c5_laws_FnExactWayLine; rw [e1]; exact m1
  have e5 : c6_laws_FnExactWayLine R k a b f c d g q m = ((1 + (p_spec_WayLine R k a b f c d g q m).1.length : Nat) : Int) := by unfold c6_laws_FnExactWayLine; rw [e4]; exact w1
  have n1 : decide (((1 + (p_spec_WayLine R k a b f c d g q m).1.length : Nat) : Int) < 0) = false := decide_eq_false (by omega)
  simp only [e0, d1, d2, e1, e2, e4, e5, q2, q3, g1, g2, m2, w2, n1, beq_self, markUp_length, bne_self_eq_false, Bool.not_true, cond_false, Bool.and_self, and_self]
end Go.Dv
