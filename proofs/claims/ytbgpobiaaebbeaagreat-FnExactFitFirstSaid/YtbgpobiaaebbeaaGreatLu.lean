/- How much a map bends a list: both texts are the same. -/
import Derived.Test.YtbgpobiaaebbeaaGreatLb
import Derived.Test.YtbgpobiaaebbeaaGreatLp
import Derived.Test.YtbgpobiaaebbeaaGreatLi
import Derived.Test.YtbgpobiaaebbeaaGreatWu
set_option linter.unusedSimpArgs false
namespace Go.Dv
open Go.Cv
open Ieee

theorem mul_read {a b c d : Nat} (h : FloatKind.f32.format.read a = FloatKind.f32.format.read b) (h' : FloatKind.f32.format.read c = FloatKind.f32.format.read d) : R.bin .mul .f32 a c = R.bin .mul .f32 b d := by
  show (FloatKind.f32.format.mul a c).getD (nanOf .f32) = (FloatKind.f32.format.mul b d).getD (nanOf .f32)
  unfold Format.mul
  rw [h, h']
noncomputable def sq (x : Nat) : Nat := R.bin .mul .f32 (p_spec_l01Log R x) (p_spec_l01Log R x)
theorem sq_log (x : Nat) : R.bin .mul .f32 (p_impl_LogNumber R x) (p_impl_LogNumber R x) = sq x := mul_read (log_good x).2.2 (log_good x).2.2

noncomputable def axOf (k : Int) (a b f : Nat) (l : List (Nat × Nat)) (i : Nat) : Nat × Nat × Nat × Bool := p_spec_l03Axes R k a b f (l.getD i (0, 0)).1 (l.getD i (0, 0)).2
noncomputable def axsUp (k : Int) (a b f : Nat) (l : List (Nat × Nat)) : Nat → List Nat
  | 0 => []
  | i + 1 => axsUp k a b f l i ++ [(axOf k a b f l i).1, (axOf k a b f l i).2.1]
theorem axsUp_length (k : Int) (a b f : Nat) (l : List (Nat × Nat)) : ∀ i, (axsUp k a b f l i).length = 2 * i
  | 0 => rfl
  | i + 1 => by rw [axsUp, List.length_append, axsUp_length k a b f l i]; simp; omega
theorem axsUp_get (k : Int) (a b f : Nat) (l : List (Nat × Nat)) : ∀ i j, j < i → (axsUp k a b f l i).getD (2 * j) 0 = (axOf k a b f l j).1 ∧ (axsUp k a b f l i).getD (2 * j + 1) 0 = (axOf k a b f l j).2.1
  | 0, j, h => by omega
  | i + 1, j, h => by
    have hl := axsUp_length k a b f l i
    rw [axsUp]
    by_cases e : j = i
    · subst e
      rw [List.getD_eq_getElem?_getD, List.getD_eq_getElem?_getD, List.getElem?_append_right (by omega), List.getElem?_append_right (by omega), hl]
      have e1 : 2 * j - 2 * j = 0 := by omega
      have e2 : 2 * j + 1 - 2 * j = 1 := by omega
      rw [e1, e2]
      exact ⟨rfl, rfl⟩
    · have := axsUp_get k a b f l i j (by omega)
      rw [← this.1, ← this.2]
      rw [List.getD_eq_getElem?_getD, List.getD_eq_getElem?_getD, List.getD_eq_getElem?_getD, List.getD_eq_getElem?_getD, List.getElem?_append_left (by omega), List.getElem?_append_left (by omega)]
      exact ⟨rfl, rfl⟩

/-- the scales of a list, or none -/
theorem impl_axes (k : Int) (a b f : Nat) (l : List (Nat × Nat)) (h : l.length ≤ 64) (h1 : 1 ≤ l.length) (hv : (l.all fun x => p_impl_ValidPlace R x.fst x.snd) = true) : r_impl_axes R k a b f l = true ∧
    (((∀ i, i < l.length → (axOf k a b f l i).2.2.2 = true) ∧ p_impl_axes R k a b f l = (axsUp k a b f l l.length, true)) ∨ (∃ j, j < l.length ∧ (axOf k a b f l j).2.2.2 = false ∧ p_impl_axes R k a b f l = ([], false))) := by
  have hw := runW_scan (step := fun x => st_impl_axes_0 R x.2.1 x.2.2.1 x.2.2.2.1 x.2.2.2.2.1 x.2.2.2.2.2.1 x.2.2.2.2.2.2.1 x.2.2.2.2.2.2.2.1 x.2.2.2.2.2.2.2.2.1 x.2.2.2.2.2.2.2.2.2.1 x.2.2.2.2.2.2.2.2.2.2.1) (n := l.length) (test := fun i => (axOf k a b f l i).2.2.2)
    (mk := fun i => ((), k, a, b, f, axsUp k a b f l i, l, (l.length : Int), (i : Int), [], false, ())) (oT := .inr (axsUp k a b f l l.length, [], false, ())) (oF := fun _ => .inl ((), false, ()))
    (fun i hi => by
      have hb : ∀ x y : Nat, (2 * i + [x, y].length).ble 1073741824 = true := fun x y => Nat.ble_eq_true_of_le (by simp; omega)
      simp only [st_impl_axes_0]
      rw [wrap_succ (by omega), idx_ok hi, idx_in hi, (axes_eq _ _ _ _ _ _).2.1, (axes_eq _ _ _ _ _ _).1, Int.toNat_natCast, axsUp_length, beq_self, beq_self, beq_self, hb]
      show brT true (brT true (brT true (brT (!(axOf k a b f l i).2.2.2) _ _) _) _) _ = _
      cases (axOf k a b f l i).2.2.2 <;> rfl)
    (by
      simp only [st_impl_axes_0]
      rw [idx_out, beq_self, beq_self]
      rfl)
  have hd : ((l.all fun x => p_impl_ValidPlace R x.fst x.snd) && (decide (1 ≤ l.length) && decide (l.length ≤ 64))) = true := by rw [hv, decide_eq_true h1, decide_eq_true h]; rfl
  unfold p_impl_axes r_impl_axes
  rw [hd, decide_eq_true (show l.length < 4611686018427387904 by omega)]
  rcases hw with ⟨t1, t2⟩ | ⟨j, t1, t2, t3⟩
  · have e : c0_impl_axes R k a b f l = some (.inr (axsUp k a b f l l.length, [], false, ())) := t2
    rw [e]
    simp only [Option.getD_some, Option.isSome_some, isL, getR, Bool.not_true, cond_false, beq_self, Bool.and_self, true_and]
    exact .inl ⟨t1, trivial⟩
  · have e : c0_impl_axes R k a b f l = some (.inl ((), false, ())) := t3
    rw [e]
    exact ⟨rfl, .inr ⟨j, t1, t2, rfl⟩⟩

/-- the sum of squares -/
noncomputable def sumUp (s : List Nat) : Nat → Nat
  | 0 => 0
  | i + 1 => R.bin .add .f32 (sumUp s i) (sq (s.getD i 0))
theorem impl_sum (s : List Nat) (h : s.length ≤ 1000) : ((∀ i, i < s.length → R.cmp .gtr .f32 (s.getD i 0) 0 = true) ∧ W_impl_BendOfMap_0 R (0, s, (s.length : Int), 0, s, 0, false, ()) = some (.inr (s, sumUp s s.length, 0, false, ()))) ∨
    (∃ j, j < s.length ∧ R.cmp .gtr .f32 (s.getD j 0) 0 = false ∧ W_impl_BendOfMap_0 R (0, s, (s.length : Int), 0, s, 0, false, ()) = some (.inl (0, false, ()))) := by
  exact runW_scan (step := fun x => st_impl_BendOfMap_0 R x.1 x.2.1 x.2.2.1 x.2.2.2.1 x.2.2.2.2.1 x.2.2.2.2.2.1 x.2.2.2.2.2.2.1) (n := s.length) (test := fun i => R.cmp .gtr .f32 (s.getD i 0) 0)
    (mk := fun i => (sumUp s i, s, (s.length : Int), (i : Int), s, 0, false, ())) (oT := .inr (s, sumUp s s.length, 0, false, ())) (oF := fun _ => .inl (0, false, ()))
    (fun i hi => by
      simp only [st_impl_BendOfMap_0]
      rw [wrap_succ (by omega), idx_ok hi, idx_in hi, Int.toNat_natCast, blt_ok hi, (log_good _).1, sq_log, beq_self]
      cases R.cmp .gtr .f32 (s.getD i 0) 0 <;> rfl)
    (by
      simp only [st_impl_BendOfMap_0]
      rw [idx_out, beq_self]
      rfl)

noncomputable def sum2 (k : Int) (a b f : Nat) (l : List (Nat × Nat)) : Nat → Nat
  | 0 => 0
  | i + 1 => R.bin .add .f32 (R.bin .add .f32 (sum2 k a b f l i) (sq (axOf k a b f l i).1)) (sq (axOf k a b f l i).2.1)
theorem sum_same (k : Int) (a b f : Nat) (l : List (Nat × Nat)) (n : Nat) : ∀ i, i ≤ n → sumUp (axsUp k a b f l n) (2 * i) = sum2 k a b f l i
  | 0, _ => rfl
  | i + 1, h => by
    obtain ⟨g1, g2⟩ := axsUp_get k a b f l n i (by omega)
    have e : 2 * (i + 1) = 2 * i + 1 + 1 := by omega
    rw [e, sumUp, sumUp, sum_same k a b f l n i (by omega), g1, g2]; rfl

/-- is a place's part told -/
noncomputable def bendOk (k : Int) (a b f : Nat) (l : List (Nat × Nat)) (i : Nat) : Bool :=
  (axOf k a b f l i).2.2.2 && (R.cmp .gtr .f32 (axOf k a b f l i).1 0 && R.cmp .gtr .f32 (axOf k a b f l i).2.1 0)

theorem spec_sum (k : Int) (a b f : Nat) (l : List (Nat × Nat)) (h : l.length ≤ 64) : ((∀ i, i < l.length → bendOk k a b f l i = true) ∧ c0_spec_l03Bend R k a b f l = some (.inr (l, sum2 k a b f l l.length, 0, false, ()))) ∨
    (∃ j, j < l.length ∧ bendOk k a b f l j = false ∧ c0_spec_l03Bend R k a b f l = some (.inl (0, false, ()))) := by
  have hw := runW_scan (step := fun x => st_spec_l03Bend_0 R x.1.1 x.1.2.1 x.1.2.2.1 x.1.2.2.2 x.2.1 x.2.2.1 x.2.2.2.1 x.2.2.2.2.1 x.2.2.2.2.2.1 x.2.2.2.2.2.2.1) (n := l.length) (test := fun i => bendOk k a b f l i)
    (mk := fun i => ((k, (a, (b, f))), l, sum2 k a b f l i, (l.length : Int), (i : Int), 0, false, ())) (oT := .inr (l, sum2 k a b f l l.length, 0, false, ())) (oF := fun _ => .inl (0, false, ()))
    (fun i hi => by
      simp only [st_spec_l03Bend_0]
      rw [wrap_succ (by omega), idx_ok hi, idx_in hi, (axes_eq _ _ _ _ _ _).2.2, (log_good _).2.1, (log_good _).2.1, Int.toNat_natCast]
      have ha : p_spec_l03Axes R k a b f (l.getD i (0, 0)).fst (l.getD i (0, 0)).snd = axOf k a b f l i := rfl
      have hU : sum2 k a b f l (i + 1) = R.bin .add .f32 (R.bin .add .f32 (sum2 k a b f l i) (sq (axOf k a b f l i).1)) (sq (axOf k a b f l i).2.1) := by rw [sum2]
      rw [ha, hU]
      unfold bendOk sq
      generalize axOf k a b f l i = A
      generalize sum2 k a b f l i = B
      generalize p_spec_l01Log R A.1 = L1
      generalize p_spec_l01Log R A.2.1 = L2
      generalize R.cmp .gtr .f32 A.1 0 = t1
      generalize R.cmp .gtr .f32 A.2.1 0 = t2
      generalize R.bin .add .f32 (R.bin .add .f32 B (R.bin .mul .f32 L1 L1)) (R.bin .mul .f32 L2 L2) = C
      cases A.2.2.2 <;> cases t1 <;> cases t2 <;> rfl)
    (by
      simp only [st_spec_l03Bend_0]
      rw [idx_out]
      rfl)
  exact hw

theorem axes_invalid {k : Int} {a b f : Nat} (c d : Nat) (h : p_spec_l03Is R k a b f = false) : (p_spec_l03Axes R k a b f c d).2.2.2 = false := by
  have hs : p_spec_l03Steps R k a b f c d = (0, 0, 0, 0, false) := by unfold p_spec_l03Steps; rw [h]; rfl
  unfold p_spec_l03Axes c0_spec_l03Axes
  rw [hs]; rfl

theorem bend_eq (k : Int) (a b f : Nat) (l : List (Nat × Nat)) (hl : l.length ≤ 1048576) : p_impl_BendOfMap R k a b f l = p_spec_BendOfMap R k a b f l ∧ r_impl_BendOfMap R k a b f l = true ∧ r_spec_BendOfMap R k a b f l = true := by
  have hdec : decide (l.length < 4611686018427387904) = true := decide_eq_true (by omega)
  cases hv : ((l.all fun x => p_impl_ValidPlace R x.fst x.snd) && (decide (1 ≤ l.length) && decide (l.length ≤ 64)))
  · have e0 : c0_impl_BendOfMap R k a b f l = ([], false) := by unfold c0_impl_BendOfMap p_impl_axes; rw [hv]; rfl
    have er : r_impl_axes R k a b f l = true := by unfold r_impl_axes; rw [hv, hdec]; rfl
    unfold p_impl_BendOfMap p_spec_BendOfMap r_impl_BendOfMap r_spec_BendOfMap
    rw [e0, er, hv, hdec]
    cases p_spec_l03Is R k a b f <;> simp only [Bool.not_false, Bool.not_true, cond_true, cond_false, Bool.and_self, and_self]
  have hv2 := hv
  simp only [Bool.and_eq_true, decide_eq_true_eq] at hv2
  obtain ⟨er, hax⟩ := impl_axes k a b f l hv2.2.2 hv2.2.1 hv2.1
  have hspec := spec_sum k a b f l hv2.2.2
  have rB : r_spec_l03Bend R k a b f l = true := by
    unfold r_spec_l03Bend
    rcases hspec with ⟨_, e⟩ | ⟨_, _, _, e⟩ <;> rw [e] <;> rfl
  have rS : r_spec_BendOfMap R k a b f l = true := by
    unfold r_spec_BendOfMap
    rw [hv, hdec, rB]
    cases p_spec_l03Is R k a b f <;> simp only [Bool.not_false, Bool.not_true, cond_true, cond_false, Bool.and_self]
  rcases hax with ⟨t1, t2⟩ | ⟨j, t1, t2, t3⟩
  · -- all axes are told
    have hm : p_spec_l03Is R k a b f = true := by
      cases hm : p_spec_l03Is R k a b f
      · have := t1 0 (by omega)
        unfold axOf at this
        rw [axes_invalid _ _ hm] at this; cases this
      · rfl
    have e0 : c0_impl_BendOfMap R k a b f l = (axsUp k a b f l l.length, true) := t2
    have hlen := axsUp_length k a b f l l.length
    rcases impl_sum (axsUp k a b f l l.length) (by omega) with ⟨u1, u2⟩ | ⟨j, u1, u2, u3⟩
    · -- all scales are positive
      have hall : ∀ i, i < l.length → bendOk k a b f l i = true := by
        intro i hi
        obtain ⟨g1, g2⟩ := axsUp_get k a b f l l.length i hi
        have p1 := u1 (2 * i) (by omega)
        have p2' := u1 (2 * i + 1) (by omega)
        rw [g1] at p1; rw [g2] at p2'
        unfold bendOk
        rw [t1 i hi, p1, p2']; rfl
      rcases hspec with ⟨_, e⟩ | ⟨j, j1, j2, _⟩
      · have e1 : c1_impl_BendOfMap R k a b f l = some (.inr (axsUp k a b f l l.length, sumUp (axsUp k a b f l l.length) (axsUp k a b f l l.length).length, 0, false, ())) := by unfold c1_impl_BendOfMap; rw [e0]; exact u2
        have hsum : sumUp (axsUp k a b f l l.length) (axsUp k a b f l l.length).length = sum2 k a b f l l.length := by rw [hlen]; exact sum_same k a b f l l.length l.length (Nat.le_refl _)
        rw [hsum] at e1
        have hw2 : IntKind.i64.wrap (2 * (l.length : Int)) = ((2 * l.length : Nat) : Int) := by rw [wrap_small (by omega) (by omega)]; omega
        have c1 : c1_spec_l03Bend R k a b f l = p_spec_l02Number R (R.bin .quo .f32 (sum2 k a b f l l.length) (R.ofi .f32 ((2 * l.length : Nat) : Int))) := by
          unfold c1_spec_l03Bend; rw [e]
          simp only [Option.getD_some, getR]
          rw [hw2]
        have c2 : c2_impl_BendOfMap R k a b f l = p_spec_l02Number R (R.bin .quo .f32 (sum2 k a b f l l.length) (R.ofi .f32 ((2 * l.length : Nat) : Int))) := by
          unfold c2_impl_BendOfMap; rw [e1, number_eq]
          simp only [Option.getD_some, getR]
          rw [hlen]
        unfold p_impl_BendOfMap p_spec_BendOfMap r_impl_BendOfMap c0_spec_BendOfMap p_spec_l03Bend
        rw [er, e0, e1, c2, hm, hv, e, c1]
        refine ⟨?_, ?_, rS⟩
        · simp only [Bool.not_true, cond_false, Option.getD_some, isL, eta2]
        · simp only [beq_self, Bool.not_true, cond_false, Bool.and_self, Option.isSome_some]
      · exfalso; rw [hall j j1] at j2; cases j2
    · -- one is not
      have hno : ∃ i, i < l.length ∧ bendOk k a b f l i = false := by
        have hj : j / 2 < l.length := by omega
        obtain ⟨g1, g2⟩ := axsUp_get k a b f l l.length (j / 2) hj
        refine ⟨j / 2, hj, ?_⟩
        rcases Nat.mod_two_eq_zero_or_one j with hp | hp
        · have e : 2 * (j / 2) = j := by omega
          rw [e, ] at g1
          rw [g1] at u2
          unfold bendOk; rw [u2]
          cases (axOf k a b f l (j / 2)).2.2.2 <;> rfl
        · have e : 2 * (j / 2) + 1 = j := by omega
          rw [e] at g2
          rw [g2] at u2
          unfold bendOk; rw [u2]
          cases (axOf k a b f l (j / 2)).2.2.2 <;> cases R.cmp .gtr .f32 (axOf k a b f l (j / 2)).1 0 <;> rfl
      rcases hspec with ⟨hall, _⟩ | ⟨_, _, _, e⟩
      · exfalso; obtain ⟨i, i1, i2⟩ := hno; rw [hall i i1] at i2; cases i2
      · have e1 : c1_impl_BendOfMap R k a b f l = some (.inl (0, false, ())) := by unfold c1_impl_BendOfMap; rw [e0]; exact u3
        unfold p_impl_BendOfMap p_spec_BendOfMap r_impl_BendOfMap c0_spec_BendOfMap p_spec_l03Bend
        rw [er, e0, e1, hm, hv, e]
        refine ⟨?_, ?_, rS⟩
        · simp only [Bool.not_true, cond_false, cond_true, Option.getD_some, isL, getL, eta2]
        · simp only [beq_self, Bool.not_true, cond_false, Bool.and_self, Option.isSome_some]
  · have e0 : c0_impl_BendOfMap R k a b f l = ([], false) := t3
    have hno : bendOk k a b f l j = false := by unfold bendOk; rw [t2]; rfl
    rcases hspec with ⟨hall, _⟩ | ⟨_, _, _, e⟩
    · exfalso; rw [hall j t1] at hno; cases hno
    · unfold p_impl_BendOfMap p_spec_BendOfMap r_impl_BendOfMap c0_spec_BendOfMap p_spec_l03Bend
      rw [er, e0, hv, e]
      refine ⟨?_, ?_, rS⟩
      · cases p_spec_l03Is R k a b f <;> simp only [Bool.not_true, Bool.not_false, cond_false, cond_true, Option.getD_some, isL, getL, eta2]
      · simp only [Bool.not_false, cond_true, Bool.and_self]

end Go.Dv
