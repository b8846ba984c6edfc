/- Lists of points: what is compared, marked and held; the points of a list. -/
import Derived.Test.YtbgpobiaaebbeaaGreatLv
import Derived.Test.YtbgpobiaaebbeaaGreatLp
import Derived.Test.YtbgpobiaaebbeaaGreatWs
import Derived.Test.YtbgpobiaaebbeaaGreatLb
set_option linter.unusedSimpArgs false
namespace Go.Dv
open Go.Cv
open Ieee

/-- lists of points, compared with themselves -/
theorem eqC_refl (l : List (Nat × Nat)) (h : l.length < 2 ^ 62) : p_laws_eqComplex64S R l l = true ∧ r_laws_eqComplex64S R l l = true := by
  have hw := runW_count (step := fun x => st_laws_eqComplex64S_0 R x.1 x.2.1 x.2.2.1 x.2.2.2.1) (n := l.length) (mk := fun i => (l, l, (i : Int), false, ())) (o := .inr (false, ()))
    (fun i hi => by
      simp only [st_laws_eqComplex64S_0]
      rw [wrap_succ (by omega), idx_ok hi, idx_in hi, sameComplex_refl]
      rfl)
    (by
      simp only [st_laws_eqComplex64S_0]
      rw [idx_out]
      rfl)
  have e : c0_laws_eqComplex64S R l l = some (.inr (false, ())) := hw
  unfold p_laws_eqComplex64S r_laws_eqComplex64S
  rw [e, bne_self_eq_false]
  exact ⟨rfl, rfl⟩

/-! ### marks -/
theorem ofi_form (k : FloatKind) (n : Nat) : R.ofi k (n : Int) = k.format.nearest false n 0 := by
  show cn k (floatOfInt k (n : Int)) = _
  have e : floatOfInt k (n : Int) = k.format.write (.number (decide ((n : Int) < 0)) (n : Int).natAbs 0) := rfl
  have h0 : decide ((n : Int) < 0) = false := decide_eq_false (by omega)
  have h1 : (n : Int).natAbs = n := Int.natAbs_natCast n
  rw [e, h0, h1]
  exact cn_of_not (write_not_nan _ _ rfl)
theorem ofi_bd {n : Nat} (h : n ≤ 2 ^ 40) : Bd (R.ofi .f64 (n : Int)) 40 := by
  rw [ofi_form]
  have hv : vd (.number false n 0) = (n : Rat) := by rw [vd_false, mg_nat0]
  have h40 : p2 40 = ((2 ^ 40 : Nat) : Rat) := p2_nat 40
  have hn := nat_nonneg n
  have hm := nat_mono h
  exact (rd_nearest .f64 false n 0).le 40 (by decide) (by decide) (by rw [hv, h40]; exact hm) (by rw [hv, h40]; grind)

def markE (j : Nat) : Nat × Nat := (R.nar (R.ofi .f64 ((1 + j : Nat) : Int)), R.nar 4607182418800017408)
def markUp (l : List (Nat × Nat)) : Nat → List (Nat × Nat)
  | 0 => l
  | i + 1 => (markUp l i).set i (markE i)
theorem markUp_length (l : List (Nat × Nat)) : ∀ i, (markUp l i).length = l.length
  | 0 => rfl
  | i + 1 => by rw [markUp, List.length_set, markUp_length l i]
theorem markUp_get (l : List (Nat × Nat)) : ∀ i j, j < i → i ≤ l.length → (markUp l i).getD j (0, 0) = markE j
  | 0, j, h, _ => by omega
  | i + 1, j, h, hl => by
    rw [markUp]
    by_cases e : j = i
    · subst e
      have hh : ((markUp l j).set j (markE j))[j]? = some (markE j) := List.getElem?_set_self (by rw [markUp_length]; omega)
      rw [List.getD_eq_getElem?_getD, hh]; rfl
    · have := markUp_get l i j (by omega) (by omega)
      rw [← this]
      have e' : i ≠ j := by omega
      simp [List.getD, List.getElem?_set, e']
theorem one_nar : R.narOk 4607182418800017408 = true := bd_narOk bd_one (by decide)
theorem mark_nar {n : Nat} (h : n ≤ 2 ^ 40) : R.narOk (R.ofi .f64 (n : Int)) = true := bd_narOk (ofi_bd h) (by decide)

theorem markC (l : List (Nat × Nat)) (h : l.length ≤ 2 ^ 30) : p_laws_markComplex64S R l 1 = (((1 + l.length : Nat) : Int), markUp l l.length) ∧ r_laws_markComplex64S R l 1 = true := by
  have hw := runW_count (step := fun x => st_laws_markComplex64S_0 R x.1 x.2.1 x.2.2.1 x.2.2.2.1) (n := l.length) (mk := fun i => (markUp l i, ((1 + i : Nat) : Int), (i : Int), 0, ())) (o := (((1 + l.length : Nat) : Int), 0, markUp l l.length, ()))
    (fun i hi => by
      have e1 : IntKind.i64.wrap (((1 + i : Nat) : Int) + 1) = ((1 + (i + 1) : Nat) : Int) := by rw [wrap_succ (by omega)]; congr 1
      simp only [st_laws_markComplex64S_0]
      rw [e1, wrap_succ (by omega), markUp_length, idx_ok hi, idx_in hi, mark_nar (by omega), one_nar, Int.toNat_natCast, blt_ok hi, List.length_set, markUp_length, beq_self]
      rfl)
    (by
      simp only [st_laws_markComplex64S_0]
      rw [markUp_length, idx_out]
      rfl)
  have e : c0_laws_markComplex64S R l 1 = some (((1 + l.length : Nat) : Int), 0, markUp l l.length, ()) := hw
  unfold p_laws_markComplex64S r_laws_markComplex64S
  rw [e, beq_self]
  exact ⟨rfl, rfl⟩

theorem nar_nm {x : Nat} {E : Int} (h : Bd x E) (h1 : -149 ≤ E) (h2 : E ≤ 127) : R.cmp .eql .f32 (R.nar x) (R.nar x) = true := by
  have hN := (bk_nar h h1 h2).1
  rw [eql_nm hN hN]; exact decide_eq_true rfl
theorem heldC (l : List (Nat × Nat)) (h : l.length ≤ 2 ^ 30) : p_laws_heldComplex64S R (markUp l l.length) 1 = ((1 + l.length : Nat) : Int) ∧ r_laws_heldComplex64S R (markUp l l.length) 1 = true := by
  have hw := runW_count (step := fun x => st_laws_heldComplex64S_0 R x.1 x.2.1 x.2.2.1 x.2.2.2.1) (n := l.length) (mk := fun i => (markUp l l.length, ((1 + i : Nat) : Int), (i : Int), 0, ())) (o := .inr (((1 + l.length : Nat) : Int), 0, ()))
    (fun i hi => by
      have e1 : IntKind.i64.wrap (((1 + i : Nat) : Int) + 1) = ((1 + (i + 1) : Nat) : Int) := by rw [wrap_succ (by omega)]; congr 1
      simp only [st_laws_heldComplex64S_0]
      rw [e1, wrap_succ (by omega), markUp_length, idx_ok hi, idx_in hi, mark_nar (by omega), one_nar, Int.toNat_natCast, markUp_get l l.length i hi (Nat.le_refl _)]
      have c1 : R.cmp .eql .f32 (markE i).fst (R.nar (R.ofi .f64 ((1 + i : Nat) : Int))) = true := nar_nm (ofi_bd (by omega)) (by decide) (by decide)
      have c2 : R.cmp .eql .f32 (markE i).snd (R.nar 4607182418800017408) = true := nar_nm bd_one (by decide) (by decide)
      rw [c1, c2]
      rfl)
    (by
      simp only [st_laws_heldComplex64S_0]
      rw [markUp_length, idx_out]
      rfl)
  have e : c0_laws_heldComplex64S R (markUp l l.length) 1 = some (.inr (((1 + l.length : Nat) : Int), 0, ())) := hw
  unfold p_laws_heldComplex64S r_laws_heldComplex64S
  rw [e]
  exact ⟨rfl, rfl⟩

/-! ### the points of a list -/
noncomputable def ptOf (k : Int) (a b f : Nat) (l : List (Nat × Nat)) (i : Nat) : Nat × Nat × Bool := p_spec_l03Point R k a b f (l.getD i (0, 0)).1 (l.getD i (0, 0)).2
noncomputable def ptsUp (k : Int) (a b f : Nat) (l : List (Nat × Nat)) : Nat → List (Nat × Nat)
  | 0 => []
  | i + 1 => ptsUp k a b f l i ++ [((ptOf k a b f l i).1, (ptOf k a b f l i).2.1)]
theorem ptsUp_length (k : Int) (a b f : Nat) (l : List (Nat × Nat)) : ∀ i, (ptsUp k a b f l i).length = i
  | 0 => rfl
  | i + 1 => by rw [ptsUp, List.length_append, ptsUp_length k a b f l i]; rfl
/-- all points, or none -/
noncomputable def ptsAll (k : Int) (a b f : Nat) (l : List (Nat × Nat)) : List (Nat × Nat) × Bool :=
  bif (List.range l.length).all fun i => (ptOf k a b f l i).2.2 then (ptsUp k a b f l l.length, true) else ([], false)
theorem ptsAll_yes {k : Int} {a b f : Nat} {l : List (Nat × Nat)} (h : ∀ i, i < l.length → (ptOf k a b f l i).2.2 = true) : ptsAll k a b f l = (ptsUp k a b f l l.length, true) := by
  unfold ptsAll
  have : ((List.range l.length).all fun i => (ptOf k a b f l i).2.2) = true := by
    rw [List.all_eq_true]
    intro i hi
    exact h i (List.mem_range.1 hi)
  rw [this]; rfl
theorem ptsAll_no {k : Int} {a b f : Nat} {l : List (Nat × Nat)} {j : Nat} (hj : j < l.length) (h : (ptOf k a b f l j).2.2 = false) : ptsAll k a b f l = ([], false) := by
  unfold ptsAll
  have : ((List.range l.length).all fun i => (ptOf k a b f l i).2.2) = false := by
    refine Bool.eq_false_iff.2 fun hc => ?_
    rw [List.all_eq_true] at hc
    have := hc j (List.mem_range.2 hj)
    rw [h] at this; cases this
  rw [this]; rfl
theorem ptsAll_len (k : Int) (a b f : Nat) (l : List (Nat × Nat)) : (ptsAll k a b f l).1.length ≤ l.length := by
  unfold ptsAll
  cases (List.range l.length).all fun i => (ptOf k a b f l i).2.2
  · exact Nat.zero_le _
  · exact Nat.le_of_eq (ptsUp_length k a b f l l.length)

theorem spec_points (k : Int) (a b f : Nat) (l : List (Nat × Nat)) (h : l.length ≤ 64) : p_spec_l03Points R k a b f l = ptsAll k a b f l ∧ r_spec_l03Points R k a b f l = true := by
  have hw := runW_scan (step := fun x => st_spec_l03Points_0 R x.1.1 x.1.2.1 x.1.2.2.1 x.1.2.2.2 x.2.1 x.2.2.1 x.2.2.2.1 x.2.2.2.2.1 x.2.2.2.2.2.2.1) (n := l.length) (test := fun i => (ptOf k a b f l i).2.2)
    (mk := fun i => ((k, (a, (b, f))), l, ptsUp k a b f l i, (l.length : Int), (i : Int), (), false, ())) (oT := .inr (ptsUp k a b f l l.length, (), false, ())) (oF := fun _ => .inl ((), false, ()))
    (fun i hi => by
      have hb : ∀ x : Nat × Nat, (i + [x].length).ble 1073741824 = true := fun x => Nat.ble_eq_true_of_le (by simp; omega)
      simp only [st_spec_l03Points_0]
      rw [wrap_succ (by omega), idx_ok hi, idx_in hi, point_spec_ok, Int.toNat_natCast, ptsUp_length, beq_self, beq_self, hb]
      show brT true (brT true (brT true (brT (!(ptOf k a b f l i).2.2) _ _) _) _) _ = _
      cases (ptOf k a b f l i).2.2 <;> rfl)
    (by
      simp only [st_spec_l03Points_0]
      rw [idx_out, beq_self]
      rfl)
  rcases hw with ⟨h1, h2⟩ | ⟨j, h1, h2, h3⟩
  · have e : c0_spec_l03Points R k a b f l = some (.inr (ptsUp k a b f l l.length, (), false, ())) := h2
    unfold p_spec_l03Points r_spec_l03Points
    rw [e, ptsAll_yes h1]
    simp only [Option.getD_some, Option.isSome_some, isL, getR, cond_false, beq_self, Bool.and_self, and_self]
  · have e : c0_spec_l03Points R k a b f l = some (.inl ((), false, ())) := h3
    unfold p_spec_l03Points r_spec_l03Points
    rw [e, ptsAll_no h1 h2]
    exact ⟨rfl, rfl⟩

end Go.Dv
