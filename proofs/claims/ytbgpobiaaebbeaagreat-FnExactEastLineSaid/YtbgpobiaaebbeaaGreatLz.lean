/- Lines on a map: norths, easts and ways. -/
import Derived.Test.YtbgpobiaaebbeaaGreatLy
import Derived.Test.YtbgpobiaaebbeaaGreatLj
import Derived.Test.YtbgpobiaaebbeaaGreatLp
import Derived.Test.YtbgpobiaaebbeaaGreatWv
set_option linter.unusedSimpArgs false
set_option linter.unusedVariables false
namespace Go.Dv
open Go.Cv
open Ieee

/-! ### places step by step -/
def plUp (PL : Nat → Nat × Nat × Bool) : Nat → List (Nat × Nat)
  | 0 => []
  | i + 1 => plUp PL i ++ [((PL i).1, (PL i).2.1)]
theorem plUp_length (PL : Nat → Nat × Nat × Bool) : ∀ i, (plUp PL i).length = i
  | 0 => rfl
  | i + 1 => by rw [plUp, List.length_append, plUp_length PL i]; rfl
theorem plUp_get (PL : Nat → Nat × Nat × Bool) : ∀ i j, j < i → (plUp PL i).getD j (0, 0) = ((PL j).1, (PL j).2.1)
  | 0, j, h => by omega
  | i + 1, j, h => by
    have hl := plUp_length PL i
    rw [plUp]
    by_cases e : j = i
    · subst e
      rw [List.getD_eq_getElem?_getD, List.getElem?_append_right (by omega), hl, Nat.sub_self]; rfl
    · rw [← plUp_get PL i j (by omega), List.getD_eq_getElem?_getD, List.getD_eq_getElem?_getD, List.getElem?_append_left (by omega)]

noncomputable def ptL (k : Int) (a b f : Nat) (PL : Nat → Nat × Nat × Bool) (i : Nat) : Nat × Nat × Bool := p_spec_PointOf R k a b f (PL i).1 (PL i).2.1
noncomputable def zUp (k : Int) (a b f : Nat) (PL : Nat → Nat × Nat × Bool) : Nat → List (Nat × Nat)
  | 0 => []
  | i + 1 => zUp k a b f PL i ++ [((ptL k a b f PL i).1, (ptL k a b f PL i).2.1)]
theorem zUp_length (k : Int) (a b f : Nat) (PL : Nat → Nat × Nat × Bool) : ∀ i, (zUp k a b f PL i).length = i
  | 0 => rfl
  | i + 1 => by rw [zUp, List.length_append, zUp_length k a b f PL i]; rfl
noncomputable def tst (k : Int) (a b f : Nat) (PL : Nat → Nat × Nat × Bool) (i : Nat) : Bool := (PL i).2.2 && (ptL k a b f PL i).2.2
noncomputable def lineZ (k : Int) (a b f : Nat) (PL : Nat → Nat × Nat × Bool) (n : Nat) : List (Nat × Nat) × Bool :=
  bif (List.range n).all (tst k a b f PL) then (zUp k a b f PL n, true) else ([], false)
theorem lineZ_yes {k : Int} {a b f : Nat} {PL : Nat → Nat × Nat × Bool} {n : Nat} (h : ∀ i, i < n → tst k a b f PL i = true) : lineZ k a b f PL n = (zUp k a b f PL n, true) := by
  unfold lineZ
  have : (List.range n).all (tst k a b f PL) = true := by
    rw [List.all_eq_true]
    intro i hi
    exact h i (List.mem_range.1 hi)
  rw [this]; rfl
theorem lineZ_no {k : Int} {a b f : Nat} {PL : Nat → Nat × Nat × Bool} {n j : Nat} (hj : j < n) (h : tst k a b f PL j = false) : lineZ k a b f PL n = ([], false) := by
  unfold lineZ
  have : (List.range n).all (tst k a b f PL) = false := by
    refine Bool.eq_false_iff.2 fun hc => ?_
    rw [List.all_eq_true] at hc
    have := hc j (List.mem_range.2 hj)
    rw [h] at this; cases this
  rw [this]; rfl
/-- where all places are such: the points of the list -/
theorem lineZ_same {k : Int} {a b f : Nat} {PL : Nat → Nat × Nat × Bool} {n : Nat} (hm : p_spec_l03Is R k a b f = true) (hv : ∀ i, i < n → (PL i).2.2 = true ∧ p_spec_l02Is R (PL i).1 (PL i).2.1 = true) :
    lineZ k a b f PL n = ptsAll k a b f (plUp PL n) := by
  have hp : ∀ i, i < n → ptOf k a b f (plUp PL n) i = ptL k a b f PL i := fun i hi => by
    unfold ptOf ptL
    rw [plUp_get PL n i hi, pointOf_yes hm (hv i hi).2]
  have hz : ∀ i, i ≤ n → ptsUp k a b f (plUp PL n) i = zUp k a b f PL i := fun i => by
    induction i with
    | zero => intro _; rfl
    | succ i ih => intro hi; rw [ptsUp, zUp, ih (by omega), hp i (by omega)]
  by_cases hall : ∀ i, i < n → (ptL k a b f PL i).2.2 = true
  · rw [lineZ_yes (fun i hi => by unfold tst; rw [(hv i hi).1, hall i hi]; rfl), ptsAll_yes (fun i hi => by rw [plUp_length] at hi; rw [hp i hi]; exact hall i hi), plUp_length, hz n (Nat.le_refl _)]
  · have : ∃ j, j < n ∧ (ptL k a b f PL j).2.2 = false := by
      refine Classical.byContradiction fun hc => hall fun i hi => ?_
      cases h : (ptL k a b f PL i).2.2
      · exact (hc ⟨i, hi, h⟩).elim
      · rfl
    obtain ⟨j, hj, h⟩ := this
    rw [lineZ_no hj (by unfold tst; rw [h, Bool.and_false]), ptsAll_no (j := j) (by rw [plUp_length]; exact hj) (by rw [hp j hj]; exact h)]

/-! ### shares -/
noncomputable def qt (n i : Nat) : Nat := R.bin .quo .f32 (R.ofi .f32 (i : Int)) (R.ofi .f32 (IntKind.i64.wrap ((n : Int) - 1)))
theorem quot_in : ∀ c : Nat, c < 65 → ∀ i : Nat, i < c → 2 ≤ c → (R.cmp .geq .f32 (R.bin .quo .f32 (R.ofi .f32 (i : Int)) (R.ofi .f32 (IntKind.i64.wrap ((c : Int) - 1)))) 0 && R.cmp .leq .f32 (R.bin .quo .f32 (R.ofi .f32 (i : Int)) (R.ofi .f32 (IntKind.i64.wrap ((c : Int) - 1)))) 1065353216) = true := by decide +kernel
theorem nm_0w : Nm .f32 0 := ⟨_, _, _, rfl⟩
theorem fv_0w : fv .f32 0 = 0 := by decide +kernel
theorem nm_1w : Nm .f32 1065353216 := ⟨_, _, _, rfl⟩
theorem fv_1w : fv .f32 1065353216 = 1 := by decide +kernel
theorem qt_in {n i : Nat} (h : n ≤ 64) (h2 : 2 ≤ n) (hi : i < n) : Nm .f32 (qt n i) ∧ 0 ≤ fv .f32 (qt n i) ∧ fv .f32 (qt n i) ≤ 1 := by
  have := quot_in n (by omega) i hi h2
  rw [Bool.and_eq_true] at this
  have hb := between_nm nm_0w nm_1w this.1 this.2
  rw [fv_0w, fv_1w] at hb
  exact hb
theorem bd1 {v : Rat} {r : Nat} (h : Rd .f32 v r) (h1 : v ≤ 2) (h2 : -2 ≤ v) : Nm .f32 r := by
  obtain ⟨hN, _, _⟩ := h.le 1 (by decide) (by decide) (by rw [p2_1']; exact h1) (by rw [p2_1']; grind)
  exact hN

noncomputable def PLe (n : Nat) (own : Nat) (ok : Bool) (i : Nat) : Nat × Nat × Bool := p_impl_EastLine_1 R (qt n i) own ok
theorem impl_line_e (k : Int) (a b f : Nat) (n : Nat) (own : Nat) (ok : Bool) (h : n ≤ 64) (h2 : 2 ≤ n) (hm : p_spec_l03Is R k a b f = true) :
    p_impl_Map_line_e R k a b f (n : Int) own ok = lineZ k a b f (PLe n own ok) n ∧ r_impl_Map_line_e R k a b f (n : Int) own ok = true := by
  have hw := runW_scan (step := fun x => st_impl_Map_line_e_0 R x.1 x.2.1.1 x.2.1.2.1 x.2.2.2.1 x.2.2.2.2.1 x.2.2.2.2.2.1 x.2.2.2.2.2.2.1 x.2.2.2.2.2.2.2.1 x.2.2.2.2.2.2.2.2.1 x.2.2.2.2.2.2.2.2.2.1 x.2.2.2.2.2.2.2.2.2.2.1 x.2.2.2.2.2.2.2.2.2.2.2.1) (n := n) (test := tst k a b f (PLe n own ok))
    (mk := fun i => ((n : Int), (own, ok, ()), (), k, a, b, f, zUp k a b f (PLe n own ok) i, (n : Int), (i : Int), [], false, ())) (oT := .inr (zUp k a b f (PLe n own ok) n, [], false, ())) (oF := fun _ => .inl ((), false, ()))
    (fun i hi => by
      have hb : ∀ x : Nat × Nat, (i + [x].length).ble 1073741824 = true := fun x => Nat.ble_eq_true_of_le (by simp; omega)
      simp only [st_impl_Map_line_e_0]
      rw [wrap_succ (by omega), idx_in hi, (pointOf_ok _ _ _ _ _ _).1, pointOf_eq, zUp_length, beq_self, beq_self, beq_self, hb]
      unfold tst
      show brT true (brT true (brT (!(PLe n own ok i).2.2) _ (brT (!(ptL k a b f (PLe n own ok) i).2.2) _ _)) _) _ = _
      cases (PLe n own ok i).2.2 <;> cases (ptL k a b f (PLe n own ok) i).2.2 <;> rfl)
    (by
      simp only [st_impl_Map_line_e_0]
      rw [idx_out, beq_self, beq_self]
      rfl)
  have hw1 : p_impl_within R (n : Int) 2 64 = true := by unfold p_impl_within; rw [decide_eq_true (show (2 : Int) ≤ n by omega), decide_eq_true (show (n : Int) ≤ 64 by omega)]; rfl
  unfold p_impl_Map_line_e r_impl_Map_line_e
  rw [map_eq, hm, hw1]
  rcases hw with ⟨t1, t2⟩ | ⟨j, t1, t2, t3⟩
  · have e : c0_impl_Map_line_e R k a b f (n : Int) own ok = some (.inr (zUp k a b f (PLe n own ok) n, [], false, ())) := t2
    rw [e, lineZ_yes t1]
    simp only [Option.getD_some, Option.isSome_some, isL, getR, Bool.not_true, cond_false, beq_self, Bool.and_self, and_self]
  · have e : c0_impl_Map_line_e R k a b f (n : Int) own ok = some (.inl ((), false, ())) := t3
    rw [e, lineZ_no t1 t2]
    exact ⟨rfl, rfl⟩
theorem impl_line_e_no (k : Int) (a b f : Nat) (n : Int) (own : Nat) (ok : Bool) (h : p_spec_l03Is R k a b f = false ∨ p_impl_within R n 2 64 = false) :
    p_impl_Map_line_e R k a b f n own ok = ([], false) ∧ r_impl_Map_line_e R k a b f n own ok = true := by
  unfold p_impl_Map_line_e r_impl_Map_line_e
  rw [map_eq]
  rcases h with h | h <;> rw [h]
  · exact ⟨rfl, rfl⟩
  · cases p_spec_l03Is R k a b f <;> exact ⟨rfl, rfl⟩

/-! ### norths -/
theorem valid_ok {n e : Nat} (h : p_impl_ValidPlace R n e = true) : p_impl_valid R n e true = (n, e, true) := by
  unfold p_impl_valid; rw [h]; rfl
theorem count_within (c : Int) : p_spec_l03Count R c = p_impl_within R c 2 64 := rfl
theorem within_nat {c : Int} (h : p_impl_within R c 2 64 = true) : ∃ n : Nat, c = (n : Int) ∧ 2 ≤ n ∧ n ≤ 64 := by
  unfold p_impl_within at h
  by_cases h1 : (2 : Int) ≤ c
  · rw [decide_eq_true h1, cond_true] at h
    have h2 := of_decide_eq_true h
    exact ⟨c.toNat, by omega, by omega, by omega⟩
  · rw [decide_eq_false h1] at h; cases h

/-! ### easts -/
theorem fv_c24 : fv .f32 3195388559 = -(fv .f32 1047904911) := by decide +kernel
theorem nm_c24 : Nm .f32 3195388559 := ⟨_, _, _, rfl⟩
theorem fv_c48 : 0 ≤ fv .f32 1056293519 ∧ fv .f32 1056293519 ≤ 48 / 100 := by decide +kernel
theorem nm_c48 : Nm .f32 1056293519 := ⟨_, _, _, rfl⟩
theorem fv_p24 : 23 / 100 ≤ fv .f32 1047904911 ∧ fv .f32 1047904911 ≤ 1 / 4 := by decide +kernel
theorem east_north {q : Nat} (hq : Nm .f32 q) (q0 : 0 ≤ fv .f32 q) (q1 : fv .f32 q ≤ 1) :
    Nm .f32 (R.bin .add .f32 3195388559 (R.bin .mul .f32 1056293519 q)) ∧ -(1 / 4) ≤ fv .f32 (R.bin .add .f32 3195388559 (R.bin .mul .f32 1056293519 q)) ∧ fv .f32 (R.bin .add .f32 3195388559 (R.bin .mul .f32 1056293519 q)) ≤ 1 / 4 := by
  have hp0 : 0 ≤ fv .f32 1056293519 * fv .f32 q := Rat.mul_nonneg fv_c48.1 q0
  have hp1 : fv .f32 1056293519 * fv .f32 q ≤ fv .f32 1056293519 := by
    have := Rat.mul_le_mul_of_nonneg_left q1 fv_c48.1
    rwa [Rat.mul_one] at this
  have t1 := rd_mul nm_c48 hq
  have t2 := rc_mul nm_c48 hq
  have n2 := bd1 t1 (by have := fv_c48; grind) (by grind)
  have u2 := t2.ge _ nm_0w n2 (by rw [fv_0w]; exact hp0)
  have v2 := t2.le _ nm_c48 n2 hp1
  rw [fv_0w] at u2
  generalize R.bin .mul .f32 1056293519 q = y at *
  have w1 := rd_add nm_c24 n2
  have w2 := rc_add nm_c24 n2
  have hv := fv_c48.2
  have hu := fv_p24
  have n3 := bd1 w1 (by rw [fv_c24]; grind) (by rw [fv_c24]; grind)
  have u3 := w2.ge _ nm_nq32 n3 (by rw [fv_nq32, fv_c24]; grind)
  have v3 := w2.le _ nm_q32 n3 (by rw [fv_q32, fv_c24]; grind)
  rw [fv_nq32] at u3
  rw [fv_q32] at v3
  exact ⟨n3, u3, v3⟩

noncomputable def PSe (n own : Nat) (i : Nat) : Nat × Nat × Bool := (R.bin .add .f32 3195388559 (R.bin .mul .f32 1056293519 (qt n i)), own, true)
theorem spec_list_e (k : Int) (a b f east : Nat) (n : Nat) (h : n ≤ 64) : c1_spec_EastLine R k a b f east (n : Int) = some ((), k, a, b, f, plUp (PSe n (p_spec_WrapEast R east).1) n, (), false, ()) :=
  runW_count (step := fun x => st_spec_EastLine_0 R x.1 x.2.1 x.2.2.1 x.2.2.2.1 x.2.2.2.2.2.1 x.2.2.2.2.2.2.1 x.2.2.2.2.2.2.2.1 x.2.2.2.2.2.2.2.2.1 x.2.2.2.2.2.2.2.2.2.2.1) (n := n)
    (mk := fun i => ((n : Int), (p_spec_WrapEast R east).1, plUp (PSe n (p_spec_WrapEast R east).1) i, (i : Int), (), k, a, b, f, (), false, ())) (o := ((), k, a, b, f, plUp (PSe n (p_spec_WrapEast R east).1) n, (), false, ()))
    (fun i hi => by
      have hb : ∀ x : Nat × Nat, (i + [x].length).ble 1073741824 = true := fun x => Nat.ble_eq_true_of_le (by simp; omega)
      simp only [st_spec_EastLine_0]
      rw [wrap_succ (by omega), idx_in hi, plUp_length, beq_self, beq_self, hb]
      rfl)
    (by
      simp only [st_spec_EastLine_0]
      rw [idx_out, beq_self]
      rfl)

theorem nm_1000 : Nm .f32 1148846080 := ⟨_, _, _, rfl⟩
theorem fv_1000 : fv .f32 1148846080 = 1000 := by decide +kernel
theorem nm_n1000 : Nm .f32 3296329728 := ⟨_, _, _, rfl⟩
theorem fv_n1000 : fv .f32 3296329728 = -1000 := by decide +kernel
/-- an east that is wrapped, both texts -/
theorem wrapEast_eq (x : Nat) : p_impl_WrapEast R x = p_spec_WrapEast R x ∧ ((p_spec_WrapEast R x).2 = true → InH (p_spec_WrapEast R x).1) := by
  unfold p_impl_WrapEast c0_impl_WrapEast p_spec_WrapEast p_impl_finite p_impl_inside
  cases h1 : R.cmp .geq .f32 x 3296329728
  · exact ⟨rfl, fun h => by cases h⟩
  cases h2 : R.cmp .leq .f32 x 1148846080
  · exact ⟨rfl, fun h => by cases h⟩
  have hb := between_nm nm_n1000 nm_1000 h1 h2
  rw [fv_n1000, fv_1000] at hb
  have hi := wrap_in2 hb.1 hb.2.1 hb.2.2
  rw [fin_same, wrap_eq, fin_spec, decide_eq_true hi.1]
  exact ⟨rfl, fun _ => hi⟩

theorem eastLine_eq (k : Int) (a b f east : Nat) (c : Int) : p_impl_EastLine R k a b f east c = p_spec_EastLine R k a b f east c ∧ r_impl_EastLine R k a b f east c = true ∧ r_spec_EastLine R k a b f east c = true ∧ (p_spec_EastLine R k a b f east c).1.length ≤ 64 := by
  obtain ⟨w1, w2⟩ := wrapEast_eq east
  unfold p_impl_EastLine r_impl_EastLine c1_impl_EastLine c0_impl_EastLine
  rw [w1]
  cases hm : p_spec_l03Is R k a b f
  · obtain ⟨e1, e2⟩ := impl_line_e_no k a b f c (p_spec_WrapEast R east).1 (p_spec_WrapEast R east).2 (.inl hm)
    rw [e1, e2]
    unfold p_spec_EastLine r_spec_EastLine
    rw [hm]
    exact ⟨rfl, rfl, rfl, Nat.zero_le _⟩
  cases hc : p_impl_within R c 2 64
  · obtain ⟨e1, e2⟩ := impl_line_e_no k a b f c (p_spec_WrapEast R east).1 (p_spec_WrapEast R east).2 (.inr hc)
    rw [e1, e2]
    unfold p_spec_EastLine r_spec_EastLine c0_spec_EastLine
    rw [hm, count_within, hc]
    cases (p_spec_WrapEast R east).2 <;> exact ⟨rfl, rfl, rfl, Nat.zero_le _⟩
  obtain ⟨n, rfl, n2, n64⟩ := within_nat hc
  obtain ⟨e1, e2⟩ := impl_line_e k a b f n (p_spec_WrapEast R east).1 (p_spec_WrapEast R east).2 n64 n2 hm
  rw [e1, e2]
  unfold p_spec_EastLine r_spec_EastLine c2_spec_EastLine c0_spec_EastLine
  rw [hm, count_within, hc, spec_list_e k a b f east n n64]
  cases hok : (p_spec_WrapEast R east).2
  · have : lineZ k a b f (PLe n (p_spec_WrapEast R east).1 false) n = ([], false) := by
      refine lineZ_no (j := 0) (by omega) ?_
      unfold tst PLe p_impl_EastLine_1 c0_impl_EastLine_1 p_impl_valid
      rfl
    rw [this]
    exact ⟨rfl, rfl, rfl, Nat.zero_le _⟩
  have hown := w2 hok
  generalize (p_spec_WrapEast R east).1 = own at *
  have hpl : ∀ i, i < n → p_impl_ValidPlace R (PSe n own i).1 (PSe n own i).2.1 = true := fun i hi => by
    obtain ⟨q1, q2, q3⟩ := qt_in n64 n2 hi
    obtain ⟨r1, r2, r3⟩ := east_north q1 q2 q3
    exact place_of r1 r2 r3 hown
  have hPL : ∀ i, i < n → PLe n own true i = PSe n own i := fun i hi => by
    have := hpl i hi
    unfold PSe at this ⊢
    unfold PLe p_impl_EastLine_1 c0_impl_EastLine_1
    rw [valid_ok this]
  have hsame : plUp (PLe n own true) n = plUp (PSe n own) n := by
    have : ∀ i, i ≤ n → plUp (PLe n own true) i = plUp (PSe n own) i := fun i => by
      induction i with
      | zero => intro _; rfl
      | succ i ih => intro hi; rw [plUp, plUp, ih (by omega), hPL i (by omega)]
    exact this n (Nat.le_refl _)
  rw [lineZ_same hm (fun i hi => by rw [hPL i hi]; exact ⟨rfl, by rw [← place_eq]; exact hpl i hi⟩), hsame]
  obtain ⟨s1, s2⟩ := spec_points k a b f (plUp (PSe n own) n) (by rw [plUp_length]; exact n64)
  simp only [Option.getD_some, Option.isSome_some, s1, s2, Bool.not_true, cond_false, cond_true, beq_self, Bool.and_self, true_and]
  have := ptsAll_len k a b f (plUp (PSe n own) n)
  rw [plUp_length] at this
  omega

/-! ### ways -/
/-! ### the laws -/
theorem law_EastLine (k : Int) (a b f north : Nat) (c : Int) : r_laws_FnExactEastLine R k a b f north c = true ∧ p_laws_FnExactEastLine R k a b f north c = true := by
  obtain ⟨q1, q2, q3, q4⟩ := eastLine_eq k a b f north c
  unfold r_laws_FnExactEastLine p_laws_FnExactEastLine
  have e0 : c0_laws_FnExactEastLine R k a b f north c = (k, a, b, f) := rfl
  have e1 : c1_laws_FnExactEastLine R k a b f north c = p_spec_EastLine R k a b f north c := q1
  have e2 : c2_laws_FnExactEastLine R k a b f north c = p_spec_EastLine R k a b f north c := rfl
  obtain ⟨g1, g2⟩ := eqC_refl (p_spec_EastLine R k a b f north c).1 (by omega)
  obtain ⟨m1, m2⟩ := markC (p_spec_EastLine R k a b f north c).1 (by omega)
  obtain ⟨w1, w2⟩ := heldC (p_spec_EastLine R k a b f north c).1 (by omega)
  have e4 : c3_laws_FnExactEastLine R k a b f north c = (((1 + (p_spec_EastLine R k a b f north c).1.length : Nat) : Int), markUp (p_spec_EastLine R k a b f north c).1 (p_spec_EastLine R k a b f north c).1.length) := by unfold c3_laws_FnExactEastLine; rw [e1]; exact m1
  have e5 : c4_laws_FnExactEastLine R k a b f north c = ((1 + (p_spec_EastLine R k a b f north c).1.length : Nat) : Int) := by unfold c4_laws_FnExactEastLine; rw [e4]; exact w1
  have n1 : decide (((1 + (p_spec_EastLine R k a b f north c).1.length : Nat) : Int) < 0) = false := decide_eq_false (by omega)
  simp only [e0, e1, e2, e4, e5, q2, q3, g1, g2, m2, w2, n1, beq_self, markUp_length, bne_self_eq_false, Bool.not_true, cond_false, Bool.and_self, and_self]
end Go.Dv
