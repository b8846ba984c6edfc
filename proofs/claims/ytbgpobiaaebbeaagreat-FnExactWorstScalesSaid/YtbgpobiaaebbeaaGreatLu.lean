/- How much a map bends a list: both texts are the same. -/
import Derived.Test.YtbgpobiaaebbeaaGreatLb
import Derived.Test.YtbgpobiaaebbeaaGreatLp
import Derived.Test.YtbgpobiaaebbeaaGreatLi
import Derived.Test.YtbgpobiaaebbeaaGreatWu
set_option linter.unusedSimpArgs false
namespace Go.Dv
open Go.Cv
open Ieee

noncomputable def sq (x : Nat) : Nat := R.bin .mul .f32 (p_spec_l01Log R x) (p_spec_l01Log R x)
noncomputable def axOf (k : Int) (a b f : Nat) (l : List (Nat × Nat)) (i : Nat) : Nat × Nat × Nat × Bool := p_spec_l03Axes R k a b f (l.getD i (0, 0)).1 (l.getD i (0, 0)).2
noncomputable def axsUp (k : Int) (a b f : Nat) (l : List (Nat × Nat)) : Nat → List Nat
  | 0 => []
  | i + 1 => axsUp k a b f l i ++ [(axOf k a b f l i).1, (axOf k a b f l i).2.1]
theorem axsUp_length (k : Int) (a b f : Nat) (l : List (Nat × Nat)) : ∀ i, (axsUp k a b f l i).length = 2 * i
  | 0 => rfl
  | i + 1 => by rw [axsUp, List.length_append, axsUp_length k a b f l i]; simp; omega
theorem axsUp_get (k : Int) (a b f : Nat) (l : List (Nat × Nat)) : ∀ i j, j < i → (axsUp k a b f l i).getD (2 * j) 0 = (axOf k a b f l j).1 ∧ (axsUp k a b f l i).getD (2 * j + 1) 0 = (axOf k a b f l j).2.1
  | 0, j, h => by omega
  | i + 1, j, h => by
    have hl := axsUp_length k a b f l i
    rw [axsUp]
    by_cases e : j = i
    · subst e
      rw [List.getD_eq_getElem?_getD, List.getD_eq_getElem?_getD, List.getElem?_append_right (by omega), List.getElem?_append_right (by omega), hl]
      have e1 : 2 * j - 2 * j = 0 := by omega
      have e2 : 2 * j + 1 - 2 * j = 1 := by omega
      rw [e1, e2]
      exact ⟨rfl, rfl⟩
    · have := axsUp_get k a b f l i j (by omega)
      rw [← this.1, ← this.2]
      rw [List.getD_eq_getElem?_getD, List.getD_eq_getElem?_getD, List.getD_eq_getElem?_getD, List.getD_eq_getElem?_getD, List.getElem?_append_left (by omega), List.getElem?_append_left (by omega)]
      exact ⟨rfl, rfl⟩

/-- the scales of a list, or none -/
theorem impl_axes (k : Int) (a b f : Nat) (l : List (Nat × Nat)) (h : l.length ≤ 64) (h1 : 1 ≤ l.length) (hv : (l.all fun x => p_impl_ValidPlace R x.fst x.snd) = true) : r_impl_axes R k a b f l = true ∧
    (((∀ i, i < l.length → (axOf k a b f l i).2.2.2 = true) ∧ p_impl_axes R k a b f l = (axsUp k a b f l l.length, true)) ∨ (∃ j, j < l.length ∧ (axOf k a b f l j).2.2.2 = false ∧ p_impl_axes R k a b f l = ([], false))) := by
  have hw := runW_scan (step := fun x => st_impl_axes_0 R x.2.1 x.2.2.1 x.2.2.2.1 x.2.2.2.2.1 x.2.2.2.2.2.1 x.2.2.2.2.2.2.1 x.2.2.2.2.2.2.2.1 x.2.2.2.2.2.2.2.2.1 x.2.2.2.2.2.2.2.2.2.1 x.2.2.2.2.2.2.2.2.2.2.1) (n := l.length) (test := fun i => (axOf k a b f l i).2.2.2)
    (mk := fun i => ((), k, a, b, f, axsUp k a b f l i, l, (l.length : Int), (i : Int), [], false, ())) (oT := .inr (axsUp k a b f l l.length, [], false, ())) (oF := fun _ => .inl ((), false, ()))
    (fun i hi => by
      have hb : ∀ x y : Nat, (2 * i + [x, y].length).ble 1073741824 = true := fun x y => Nat.ble_eq_true_of_le (by simp; omega)
      simp only [st_impl_axes_0]
      rw [wrap_succ (by omega), idx_ok hi, idx_in hi, (axes_eq _ _ _ _ _ _).2.1, (axes_eq _ _ _ _ _ _).1, Int.toNat_natCast, axsUp_length, beq_self, beq_self, beq_self, hb]
      show brT true (brT true (brT true (brT (!(axOf k a b f l i).2.2.2) _ _) _) _) _ = _
      cases (axOf k a b f l i).2.2.2 <;> rfl)
    (by
      simp only [st_impl_axes_0]
      rw [idx_out, beq_self, beq_self]
      rfl)
  have hd : ((l.all fun x => p_impl_ValidPlace R x.fst x.snd) && (decide (1 ≤ l.length) && decide (l.length ≤ 64))) = true := by rw [hv, decide_eq_true h1, decide_eq_true h]; rfl
  unfold p_impl_axes r_impl_axes
  rw [hd, decide_eq_true (show l.length < 4611686018427387904 by omega)]
  rcases hw with ⟨t1, t2⟩ | ⟨j, t1, t2, t3⟩
  · have e : c0_impl_axes R k a b f l = some (.inr (axsUp k a b f l l.length, [], false, ())) := t2
    rw [e]
    simp only [Option.getD_some, Option.isSome_some, isL, getR, Bool.not_true, cond_false, beq_self, Bool.and_self, true_and]
    exact .inl ⟨t1, trivial⟩
  · have e : c0_impl_axes R k a b f l = some (.inl ((), false, ())) := t3
    rw [e]
    exact ⟨rfl, .inr ⟨j, t1, t2, rfl⟩⟩

theorem axes_invalid {k : Int} {a b f : Nat} (c d : Nat) (h : p_spec_l03Is R k a b f = false) : (p_spec_l03Axes R k a b f c d).2.2.2 = false := by
  have hs : p_spec_l03Steps R k a b f c d = (0, 0, 0, 0, false) := by unfold p_spec_l03Steps; rw [h]; rfl
  unfold p_spec_l03Axes c0_spec_l03Axes
  rw [hs]; rfl

end Go.Dv
