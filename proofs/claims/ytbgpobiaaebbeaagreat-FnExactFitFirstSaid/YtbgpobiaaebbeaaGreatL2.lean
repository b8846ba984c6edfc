/- The map that bends least: both texts are the same. -/
import Derived.Test.YtbgpobiaaebbeaaGreatLu
import Derived.Test.YtbgpobiaaebbeaaGreatLv
import Derived.Test.YtbgpobiaaebbeaaGreatLc
import Derived.Test.YtbgpobiaaebbeaaGreatWv
set_option linter.unusedSimpArgs false
namespace Go.Dv
open Go.Cv
open Ieee

/-! ### thirds -/
theorem nm_z : Nm .f32 0 := ⟨_, _, _, rfl⟩
theorem fv_z : fv .f32 0 = 0 := by decide +kernel
theorem nm_3w : Nm .f32 1077936128 := ⟨_, _, _, rfl⟩
theorem fv_3w : fv .f32 1077936128 = 3 := by decide +kernel
theorem nm_24w : Nm .f32 1047904911 := ⟨_, _, _, rfl⟩
theorem fv_24w : 0 ≤ fv .f32 1047904911 ∧ fv .f32 1047904911 ≤ 1 / 4 := by decide +kernel
theorem nm_48w : Nm .f32 1056293519 := ⟨_, _, _, rfl⟩
theorem fv_48w : fv .f32 1056293519 = fv .f32 1047904911 + fv .f32 1047904911 := by decide +kernel
theorem nm_halfw : Nm .f32 1056964608 := ⟨_, _, _, rfl⟩
theorem fv_halfw : fv .f32 1056964608 = 1 / 2 := by decide +kernel

/-- a difference of words is nought or no less than the least one -/
theorem gap {a b : Nat} (ha : Nm .f32 a) (hb : Nm .f32 b) (h0 : 0 ≤ fv .f32 a) (h : fv .f32 a < fv .f32 b) : p2 (-149) ≤ fv .f32 b - fv .f32 a := by
  obtain ⟨s, m, e, hr⟩ := ha
  obtain ⟨t, n, i, ht⟩ := hb
  obtain ⟨_, b2, _⟩ := read32_e a hr
  obtain ⟨_, c2, _⟩ := read32_e b ht
  have hg := mg_nonneg m e
  have hg2 := mg_nonneg n i
  have va : fv .f32 a = mg m e := by
    unfold fv at h0 ⊢; rw [hr] at h0 ⊢
    cases s
    · rfl
    · rw [vd_true] at h0 ⊢; grind
  have vb : fv .f32 b = mg n i := by
    have h0' : 0 < fv .f32 b := by grind
    unfold fv at h0' ⊢; rw [ht] at h0' ⊢
    cases t
    · rfl
    · rw [vd_true] at h0' ⊢; grind
  rw [va, vb] at h ⊢
  rw [mg_shift b2, mg_shift c2] at h ⊢
  generalize m * 2 ^ (e - -149).toNat = M at *
  generalize n * 2 ^ (i - -149).toNat = K at *
  have hlt : M < K := by
    refine Classical.byContradiction fun hc => ?_
    have := mg_le (e := -149) |>.2 (show K ≤ M by omega)
    grind
  have h1 : mg (M + 1) (-149) ≤ mg K (-149) := mg_le.2 (by omega)
  have h2 : mg (M + 1) (-149) = mg M (-149) + p2 (-149) := by
    unfold mg
    rw [Rat.natCast_add, Rat.add_mul]
    have : ((1 : Nat) : Rat) = 1 := rfl
    rw [this]; grind
  grind

/-- the power of two below a number -/
theorem pow_below {v : Rat} (h1 : p2 (-149) ≤ v) (h2 : v ≤ 1 / 4) : ∃ E : Int, -149 ≤ E ∧ E ≤ -2 ∧ p2 E ≤ v ∧ v < p2 (E + 1) := by
  have key : ∀ d : Nat, d ≤ 147 → v < p2 (-149 + d + 1) → ∃ E : Int, -149 ≤ E ∧ E ≤ -2 ∧ p2 E ≤ v ∧ v < p2 (E + 1) := by
    intro d
    induction d with
    | zero => intro _ h; exact ⟨-149, by decide, by decide, h1, by simpa using h⟩
    | succ d ih =>
      intro hd h
      by_cases hc : p2 (-149 + (d + 1 : Nat)) ≤ v
      · exact ⟨-149 + (d + 1 : Nat), by omega, by omega, hc, h⟩
      · refine ih (by omega) ?_
        have e : (-149 + (d : Int) + 1) = -149 + ((d + 1 : Nat) : Int) := by omega
        rw [e]; exact Rat.not_le.1 hc
  refine key 147 (Nat.le_refl _) ?_
  have e : ((-149 : Int) + (147 : Nat) + 1) = -1 := by decide
  rw [e, p2_m1]; grind

noncomputable def thr (lo hi : Nat) : Nat := R.bin .quo .f32 (R.bin .sub .f32 hi lo) 1077936128
noncomputable def fa (x : Nat × Nat) : Nat := R.bin .add .f32 x.1 (R.bin .quo .f32 (R.bin .sub .f32 x.2 x.1) 1077936128)
noncomputable def fb (x : Nat × Nat) : Nat := R.bin .sub .f32 x.2 (R.bin .quo .f32 (R.bin .sub .f32 x.2 x.1) 1077936128)

/-- both ends in order -/
def LH (x : Nat × Nat) : Prop := Nm .f32 x.1 ∧ Nm .f32 x.2 ∧ 0 ≤ fv .f32 x.1 ∧ fv .f32 x.1 ≤ fv .f32 x.2 ∧ fv .f32 x.2 ≤ fv .f32 1047904911
theorem third_in {x : Nat × Nat} (h : LH x) : Nm .f32 (thr x.1 x.2) ∧ 0 ≤ fv .f32 (thr x.1 x.2) ∧ fv .f32 (thr x.1 x.2) ≤ fv .f32 x.2 - fv .f32 x.1 := by
  obtain ⟨n1, n2, h1, h2, h3⟩ := h
  have h4 := fv_24w.2
  have q2 : p2 (-2) = 1 / 4 := by decide +kernel
  have hs := rd_sub n2 n1
  unfold thr
  by_cases he : fv .f32 x.1 = fv .f32 x.2
  · have hz : fv .f32 x.2 - fv .f32 x.1 = 0 := by grind
    obtain ⟨s1, _, _⟩ := hs.le (-2) (by decide) (by decide) (by rw [q2, hz]; decide +kernel) (by rw [q2, hz]; decide +kernel)
    have s2 := hs.pos (by rw [hz]; exact Rat.le_refl) s1
    have s3 := hs.neg (by rw [hz]; exact Rat.le_refl) s1
    have s4 : fv .f32 (R.bin .sub .f32 x.2 x.1) = 0 := Rat.le_antisymm s3 s2
    have hq := rd_quo s1 nm_3w (by rw [fv_3w]; decide +kernel)
    rw [s4, fv_3w] at hq
    have hz3 : (0 : Rat) / 3 = 0 := by decide +kernel
    rw [hz3] at hq
    obtain ⟨t1, _, _⟩ := hq.le (-2) (by decide) (by decide) (by rw [q2]; decide +kernel) (by rw [q2]; decide +kernel)
    exact ⟨t1, hq.pos Rat.le_refl t1, by rw [hz]; exact hq.neg Rat.le_refl t1⟩
  · have hlt : fv .f32 x.1 < fv .f32 x.2 := by grind
    obtain ⟨E, e1, e2, e3, e4⟩ := pow_below (gap n1 n2 h1 hlt) (by grind)
    have ep : p2 (E + 1) = p2 E * 2 := by rw [p2_add, p2_1']
    have ppos := p2_pos E
    obtain ⟨s1, s2, s3⟩ := hs.le (E + 1) (by show (-149 : Int) ≤ E + 1; omega) (by show E + 1 ≤ (127 : Int); omega) (by grind) (by grind)
    have s4 := hs.pos (by grind) s1
    have hq := rd_quo s1 nm_3w (by rw [fv_3w]; decide +kernel)
    rw [fv_3w] at hq
    obtain ⟨t1, t2, _⟩ := hq.le E (by show (-149 : Int) ≤ E; omega) (by show E ≤ (127 : Int); omega) (by rw [ep] at s2; grind) (by grind)
    exact ⟨t1, hq.pos (by grind) t1, by grind⟩

theorem fa_fb {x : Nat × Nat} (h : LH x) : (Nm .f32 (fa x) ∧ fv .f32 x.1 ≤ fv .f32 (fa x) ∧ fv .f32 (fa x) ≤ fv .f32 x.2) ∧ (Nm .f32 (fb x) ∧ fv .f32 x.1 ≤ fv .f32 (fb x) ∧ fv .f32 (fb x) ≤ fv .f32 x.2) := by
  obtain ⟨t1, t2, t3⟩ := third_in h
  obtain ⟨n1, n2, h1, h2, h3⟩ := h
  have h4 := fv_24w.2
  have ea : fa x = R.bin .add .f32 x.1 (thr x.1 x.2) := rfl
  have eb : fb x = R.bin .sub .f32 x.2 (thr x.1 x.2) := rfl
  rw [ea, eb]
  have da := rd_add n1 t1
  have ca := rc_add n1 t1
  have ds := rd_sub n2 t1
  have cs := rc_sub n2 t1
  have p10 : p2 0 = 1 := by decide +kernel
  obtain ⟨ma, _, _⟩ := da.le 0 (by decide) (by decide) (by rw [p10]; grind) (by rw [p10]; grind)
  obtain ⟨mb, _, _⟩ := ds.le 0 (by decide) (by decide) (by rw [p10]; grind) (by rw [p10]; grind)
  exact ⟨⟨ma, ca.ge _ n1 ma (by grind), ca.le _ n2 ma (by grind)⟩, mb, cs.ge _ n1 mb (by grind), cs.le _ n2 mb (by grind)⟩

/-! ### the ends, step by step -/
noncomputable def lh (B : Nat → Nat × Bool) : Nat → Nat × Nat
  | 0 => (0, 1047904911)
  | i + 1 => bif R.cmp .lss .f32 (B (fa (lh B i))).1 (B (fb (lh B i))).1 then ((lh B i).1, fb (lh B i)) else (fa (lh B i), (lh B i).2)
noncomputable def tF (B : Nat → Nat × Bool) (i : Nat) : Bool := (B (fa (lh B i))).2 && (B (fb (lh B i))).2
theorem lh_in (B : Nat → Nat × Bool) : ∀ i, LH (lh B i)
  | 0 => ⟨nm_z, nm_24w, by show 0 ≤ fv .f32 0; rw [fv_z]; exact Rat.le_refl, by show fv .f32 0 ≤ fv .f32 1047904911; rw [fv_z]; exact fv_24w.1, Rat.le_refl⟩
  | i + 1 => by
    have ih := lh_in B i
    obtain ⟨⟨a1, a2, a3⟩, b1, b2, b3⟩ := fa_fb ih
    obtain ⟨n1, n2, h1, h2, h3⟩ := ih
    rw [lh]
    cases R.cmp .lss .f32 (B (fa (lh B i))).1 (B (fb (lh B i))).1
    · exact ⟨a1, n2, Rat.le_trans h1 a2, a3, h3⟩
    · exact ⟨n1, b1, h1, b2, Rat.le_trans b3 h3⟩
/-- a first that a map may have -/
def FirstOk (x : Nat) : Prop := Nm .f32 x ∧ 0 ≤ fv .f32 x ∧ fv .f32 x ≤ fv .f32 1047904911
theorem firsts (B : Nat → Nat × Bool) (i : Nat) : FirstOk (fa (lh B i)) ∧ FirstOk (fb (lh B i)) := by
  have ih := lh_in B i
  obtain ⟨⟨a1, a2, a3⟩, b1, b2, b3⟩ := fa_fb ih
  obtain ⟨n1, n2, h1, h2, h3⟩ := ih
  exact ⟨⟨a1, Rat.le_trans h1 a2, Rat.le_trans a3 h3⟩, b1, Rat.le_trans h1 b2, Rat.le_trans b3 h3⟩
theorem lh_same {B C : Nat → Nat × Bool} (h : ∀ x, FirstOk x → B x = C x) : ∀ i, lh B i = lh C i
  | 0 => rfl
  | i + 1 => by
    obtain ⟨f1, f2⟩ := firsts C i
    rw [lh, lh, lh_same h i, h _ f1, h _ f2]
theorem tF_same {B C : Nat → Nat × Bool} (h : ∀ x, FirstOk x → B x = C x) (i : Nat) : tF B i = tF C i := by
  obtain ⟨f1, f2⟩ := firsts C i
  unfold tF
  rw [lh_same h i, h _ f1, h _ f2]
/-- the first in the middle -/
noncomputable def mid (x : Nat × Nat) : Nat := R.bin .mul .f32 1056964608 (R.bin .add .f32 x.1 x.2)
theorem mid_ok {x : Nat × Nat} (h : LH x) : FirstOk (mid x) := by
  obtain ⟨n1, n2, h1, h2, h3⟩ := h
  have h4 := fv_24w.2
  have p10 : p2 0 = 1 := by decide +kernel
  have da := rd_add n1 n2
  have ca := rc_add n1 n2
  obtain ⟨ma, _, _⟩ := da.le 0 (by decide) (by decide) (by rw [p10]; grind) (by rw [p10]; grind)
  have a1 := ca.ge _ nm_z ma (by rw [fv_z]; grind)
  have a2 := ca.le _ nm_48w ma (by rw [fv_48w]; grind)
  rw [fv_z] at a1
  rw [fv_48w] at a2
  unfold mid
  generalize R.bin .add .f32 x.1 x.2 = s at *
  have dm := rd_mul nm_halfw ma
  have cm := rc_mul nm_halfw ma
  rw [fv_halfw] at dm cm
  obtain ⟨mm, _, _⟩ := dm.le 0 (by decide) (by decide) (by rw [p10]; grind) (by rw [p10]; grind)
  have b1 := cm.ge _ nm_z mm (by rw [fv_z]; grind)
  have b2 := cm.le _ nm_24w mm (by grind)
  rw [fv_z] at b1
  exact ⟨mm, b1, b2⟩

theorem fv_neg24 : fv .f32 3195388559 = -(fv .f32 1047904911) := by decide +kernel
theorem nm_neg24 : Nm .f32 3195388559 := ⟨_, _, _, rfl⟩
theorem map_first {k : Int} {a b f x : Nat} (hm : p_spec_l03Is R k a b f = true) (hx : FirstOk x) : p_spec_l03Is R k a b x = true := by
  obtain ⟨h1, h2, h3⟩ := hx
  have h4 := fv_24w.1
  unfold p_spec_l03Is at hm ⊢
  rw [geq_nm h1 nm_neg24, leq_nm h1 nm_24w, decide_eq_true (show fv .f32 3195388559 ≤ fv .f32 x by rw [fv_neg24]; grind), decide_eq_true h3]
  cases h5 : p_spec_l00In R k 0 6
  · rw [h5] at hm; cases hm
  cases h6 : p_spec_l02Is R a b
  · rw [h5, h6] at hm; cases hm
  rfl

/-! ### both loops -/
noncomputable def Bi (k : Int) (a b : Nat) (l : List (Nat × Nat)) (x : Nat) : Nat × Bool := p_impl_BendOfMap R k a b x l
noncomputable def Bs (k : Int) (a b : Nat) (l : List (Nat × Nat)) (x : Nat) : Nat × Bool := p_spec_l03Bend R k a b x l
theorem bi_bs {k : Int} {a b f : Nat} {l : List (Nat × Nat)} (hm : p_spec_l03Is R k a b f = true) (hl : l.length ≤ 1048576) (hv : ((l.all fun x => p_impl_ValidPlace R x.fst x.snd) && (decide (1 ≤ l.length) && decide (l.length ≤ 64))) = true) (x : Nat) (hx : FirstOk x) : Bi k a b l x = Bs k a b l x := by
  unfold Bi Bs
  rw [(bend_eq k a b x l hl).1]
  unfold p_spec_BendOfMap c0_spec_BendOfMap
  rw [map_first hm hx, hv]
  rfl
theorem bend_r {k : Int} {a b f : Nat} {l : List (Nat × Nat)} (h : l.length ≤ 64) : r_spec_l03Bend R k a b f l = true := by
  unfold r_spec_l03Bend
  rcases spec_sum k a b f l h with ⟨_, e⟩ | ⟨_, _, _, e⟩ <;> rw [e] <;> rfl
theorem ff1 (x : Nat) (k : Int) (a b f : Nat) (l : List (Nat × Nat)) (hl : l.length ≤ 1048576) : p_impl_FitFirst_1 R x k a b f l = (k, a, b, x, (Bi k a b l x).1, (Bi k a b l x).2) ∧ r_impl_FitFirst_1 R x k a b f l = true := by
  refine ⟨rfl, ?_⟩
  unfold r_impl_FitFirst_1
  rw [(bend_eq k a b x l hl).2.1]; rfl

theorem impl_fit (k : Int) (a b f : Nat) (l : List (Nat × Nat)) (hl : l.length ≤ 1048576) :
    ((∀ i, i < 16 → tF (Bi k a b l) i = true) ∧ c0_impl_FitFirst R k a b f l = some (.inr ((), 0, 0, 0, 0, ((), (), ()), k, a, b, f, l, (lh (Bi k a b l) 16).1, (lh (Bi k a b l) 16).2, 0, false, ()))) ∨
    (∃ j, j < 16 ∧ tF (Bi k a b l) j = false ∧ c0_impl_FitFirst R k a b f l = some (.inl ((), 0, 0, 0, 0, 0, false, ()))) := by
  exact runW_scan (step := fun x => st_impl_FitFirst_0 R x.2.1 x.2.2.1 x.2.2.2.1 x.2.2.2.2.1 x.2.2.2.2.2.2.1 x.2.2.2.2.2.2.2.1 x.2.2.2.2.2.2.2.2.1 x.2.2.2.2.2.2.2.2.2.1 x.2.2.2.2.2.2.2.2.2.2.1 x.2.2.2.2.2.2.2.2.2.2.2.1 x.2.2.2.2.2.2.2.2.2.2.2.2.1 x.2.2.2.2.2.2.2.2.2.2.2.2.2.1 x.2.2.2.2.2.2.2.2.2.2.2.2.2.2.1 x.2.2.2.2.2.2.2.2.2.2.2.2.2.2.2.1) (n := 16) (test := tF (Bi k a b l))
    (mk := fun i => ((), 0, 0, 0, 0, ((), (), ()), k, a, b, f, l, (lh (Bi k a b l) i).1, (lh (Bi k a b l) i).2, (i : Int), 0, false, ())) (oT := .inr ((), 0, 0, 0, 0, ((), (), ()), k, a, b, f, l, (lh (Bi k a b l) 16).1, (lh (Bi k a b l) 16).2, 0, false, ())) (oF := fun _ => .inl ((), 0, 0, 0, 0, 0, false, ()))
    (fun i hi => by
      simp only [st_impl_FitFirst_0]
      rw [wrap_succ (by omega), decide_eq_true (show (i : Int) < 16 by omega), (ff1 _ k a b f l hl).2, (ff1 _ k a b f l hl).2, (ff1 _ k a b f l hl).1, (ff1 _ k a b f l hl).1, lh]
      show brT true (brT true (brT true (brT (!(Bi k a b l (fa (lh (Bi k a b l) i))).2) _ (brT (!(Bi k a b l (fb (lh (Bi k a b l) i))).2) _ (brT (R.cmp .lss .f32 (Bi k a b l (fa (lh (Bi k a b l) i))).1 (Bi k a b l (fb (lh (Bi k a b l) i))).1) (some (Sum.inl ((), 0, 0, 0, 0, ((), (), ()), k, a, b, f, l, (lh (Bi k a b l) i).1, fb (lh (Bi k a b l) i), ((i + 1 : Nat) : Int), 0, false, ()))) (some (Sum.inl ((), 0, 0, 0, 0, ((), (), ()), k, a, b, f, l, fa (lh (Bi k a b l) i), (lh (Bi k a b l) i).2, ((i + 1 : Nat) : Int), 0, false, ())))))) _) _) _ = _
      unfold tF
      generalize fa (lh (Bi k a b l) i) = p
      generalize fb (lh (Bi k a b l) i) = q
      generalize lh (Bi k a b l) i = u
      generalize R.cmp .lss .f32 (Bi k a b l p).1 (Bi k a b l q).1 = t
      cases (Bi k a b l p).2 <;> cases (Bi k a b l q).2 <;> cases t <;> rfl)
    rfl

noncomputable def lastF (B : Nat → Nat × Bool) (f : Nat) : Nat → Nat
  | 0 => f
  | i + 1 => fb (lh B i)
theorem spec_fit (k : Int) (a b f : Nat) (l : List (Nat × Nat)) (hl : l.length ≤ 64) :
    ((∀ i, i < 16 → tF (Bs k a b l) i = true) ∧ c0_spec_FitFirst R k a b f l = some (.inr (l, (), 0, 0, 0, 0, (lh (Bs k a b l) 16).1, (lh (Bs k a b l) 16).2, (), k, a, b, lastF (Bs k a b l) f 16, 0, false, ()))) ∨
    (∃ j, j < 16 ∧ tF (Bs k a b l) j = false ∧ c0_spec_FitFirst R k a b f l = some (.inl ((), 0, 0, 0, 0, 0, false, ()))) := by
  exact runW_scan (step := fun x => st_spec_FitFirst_0 R x.1 x.2.2.1 x.2.2.2.1 x.2.2.2.2.1 x.2.2.2.2.2.1 x.2.2.2.2.2.2.1 x.2.2.2.2.2.2.2.1 x.2.2.2.2.2.2.2.2.2.1 x.2.2.2.2.2.2.2.2.2.2.1 x.2.2.2.2.2.2.2.2.2.2.2.1 x.2.2.2.2.2.2.2.2.2.2.2.2.1 x.2.2.2.2.2.2.2.2.2.2.2.2.2.1 x.2.2.2.2.2.2.2.2.2.2.2.2.2.2.1 x.2.2.2.2.2.2.2.2.2.2.2.2.2.2.2.1) (n := 16) (test := tF (Bs k a b l))
    (mk := fun i => (l, (), 0, 0, 0, 0, (lh (Bs k a b l) i).1, (lh (Bs k a b l) i).2, (), k, a, b, lastF (Bs k a b l) f i, (i : Int), 0, false, ())) (oT := .inr (l, (), 0, 0, 0, 0, (lh (Bs k a b l) 16).1, (lh (Bs k a b l) 16).2, (), k, a, b, lastF (Bs k a b l) f 16, 0, false, ())) (oF := fun _ => .inl ((), 0, 0, 0, 0, 0, false, ()))
    (fun i hi => by
      simp only [st_spec_FitFirst_0]
      rw [wrap_succ (by omega), decide_eq_true (show (i : Int) < 16 by omega), bend_r hl, bend_r hl, lh, lastF]
      show brT true (brT true (brT true (brT (!(Bs k a b l (fa (lh (Bs k a b l) i))).2) _ (brT (!(Bs k a b l (fb (lh (Bs k a b l) i))).2) _ (brT (R.cmp .lss .f32 (Bs k a b l (fa (lh (Bs k a b l) i))).1 (Bs k a b l (fb (lh (Bs k a b l) i))).1) (some (Sum.inl (l, (), 0, 0, 0, 0, (lh (Bs k a b l) i).1, fb (lh (Bs k a b l) i), (), k, a, b, fb (lh (Bs k a b l) i), ((i + 1 : Nat) : Int), 0, false, ()))) (some (Sum.inl (l, (), 0, 0, 0, 0, fa (lh (Bs k a b l) i), (lh (Bs k a b l) i).2, (), k, a, b, fb (lh (Bs k a b l) i), ((i + 1 : Nat) : Int), 0, false, ())))))) _) _) _ = _
      unfold tF
      generalize fa (lh (Bs k a b l) i) = p
      generalize fb (lh (Bs k a b l) i) = q
      generalize lh (Bs k a b l) i = u
      generalize R.cmp .lss .f32 (Bs k a b l p).1 (Bs k a b l q).1 = t
      cases (Bs k a b l p).2 <;> cases (Bs k a b l q).2 <;> cases t <;> rfl)
    rfl

theorem fit_eq (k : Int) (a b f : Nat) (l : List (Nat × Nat)) (hl : l.length ≤ 1048576) : p_impl_FitFirst R k a b f l = p_spec_FitFirst R k a b f l ∧ r_impl_FitFirst R k a b f l = true ∧ r_spec_FitFirst R k a b f l = true := by
  have hdec : decide (l.length < 4611686018427387904) = true := decide_eq_true (by omega)
  cases hm : p_spec_l03Is R k a b f
  · unfold p_impl_FitFirst p_spec_FitFirst r_impl_FitFirst r_spec_FitFirst
    rw [map_eq, hm]
    exact ⟨rfl, rfl, rfl⟩
  cases hv : ((l.all fun x => p_impl_ValidPlace R x.fst x.snd) && (decide (1 ≤ l.length) && decide (l.length ≤ 64)))
  · have hB : ∀ x, (Bi k a b l x).2 = false := fun x => by
      unfold Bi
      rw [(bend_eq k a b x l hl).1]
      unfold p_spec_BendOfMap
      rw [hv]
      cases p_spec_l03Is R k a b x <;> rfl
    rcases impl_fit k a b f l hl with ⟨t1, _⟩ | ⟨_, _, _, e⟩
    · have := t1 0 (by decide)
      unfold tF at this
      rw [hB] at this; cases this
    · unfold p_impl_FitFirst p_spec_FitFirst r_impl_FitFirst r_spec_FitFirst
      rw [map_eq, hm, hv, hdec, e]
      exact ⟨rfl, rfl, rfl⟩
  have h64 : l.length ≤ 64 := by
    simp only [Bool.and_eq_true, decide_eq_true_eq] at hv
    exact hv.2.2
  have hB := bi_bs hm hl hv
  rcases impl_fit k a b f l hl with ⟨t1, e1⟩ | ⟨j, j1, j2, e1⟩
  · rcases spec_fit k a b f l h64 with ⟨t2, e2⟩ | ⟨j, j1, j2, _⟩
    · have h16 := lh_same hB 16
      have hmid := mid_ok (lh_in (Bs k a b l) 16)
      rw [h16] at e1
      have c1i : c1_impl_FitFirst R k a b f l = mid (lh (Bs k a b l) 16) := by
        unfold c1_impl_FitFirst
        rw [e1, half_eq]
        simp only [Option.getD_some, getR]
        rfl
      have c1s : c1_spec_FitFirst R k a b f l = mid (lh (Bs k a b l) 16) := by
        unfold c1_spec_FitFirst
        rw [e2]
        simp only [Option.getD_some, getR]
        rfl
      have c2s : c2_spec_FitFirst R k a b f l = Bs k a b l (mid (lh (Bs k a b l) 16)) := by
        unfold c2_spec_FitFirst
        rw [c1s, e2]
        simp only [Option.getD_some, getR]
        rfl
      have c2i : c2_impl_FitFirst R k a b f l = (k, a, b, mid (lh (Bs k a b l) 16), (Bs k a b l (mid (lh (Bs k a b l) 16))).1, (Bs k a b l (mid (lh (Bs k a b l) 16))).2) := by
        unfold c2_impl_FitFirst
        rw [c1i, e1]
        simp only [Option.getD_some, getR]
        rw [(ff1 _ k a b f l hl).1, hB _ hmid]
      unfold p_impl_FitFirst p_spec_FitFirst r_impl_FitFirst r_spec_FitFirst
      rw [map_eq, hm, hv, hdec, c2i, c2s, c1i, c1s, e1, e2]
      simp only [Option.getD_some, Option.isSome_some, isL, getR, Bool.not_true, cond_false, (ff1 _ k a b f l hl).2, bend_r h64, Bool.and_self, and_self, and_true]
    · exfalso
      have := t1 j j1
      rw [tF_same hB, j2] at this; cases this
  · rcases spec_fit k a b f l h64 with ⟨t2, _⟩ | ⟨_, _, _, e2⟩
    · exfalso
      have := t2 j j1
      rw [← tF_same hB, j2] at this; cases this
    · unfold p_impl_FitFirst p_spec_FitFirst r_impl_FitFirst r_spec_FitFirst
      rw [map_eq, hm, hv, hdec, e1, e2]
      exact ⟨rfl, rfl, rfl⟩

theorem eqMap_refl (k : Int) (a b f : Nat) : p_laws_eqMap R k a b f k a b f = true := by
  unfold p_laws_eqMap
  rw [eqPlace_refl, sameFloat_refl, bne_self_eq_false]; rfl
theorem law_FitFirst (k : Int) (a b f : Nat) (l : List (Nat × Nat)) (h : l.length ≤ 9223372036854775807) : r_laws_FnExactFitFirst R k a b f l = true ∧ p_laws_FnExactFitFirst R k a b f l = true := by
  unfold r_laws_FnExactFitFirst p_laws_FnExactFitFirst
  have e0 : c0_laws_FnExactFitFirst R k a b f l = p_laws_szPlaceS R l 1048576 := rfl
  cases hs : decide (p_laws_szPlaceS R l 1048576 < 0)
  · have hl := sz_small h hs
    obtain ⟨q1, q2, q3⟩ := fit_eq k a b f l hl
    have e1 : c1_laws_FnExactFitFirst R k a b f l = (k, a, b, f) := rfl
    have e2 : c2_laws_FnExactFitFirst R k a b f l = p_spec_FitFirst R k a b f l := q1
    have e3 : c3_laws_FnExactFitFirst R k a b f l = p_spec_FitFirst R k a b f l := rfl
    simp only [e0, hs, e1, e2, e3, q2, q3, eqMap_refl, sameFloat_refl, eqPlaceS_refl, beq_self, bne_self_eq_false, decide_eq_true (show l.length ≤ 1073741824 by omega), decide_eq_true (show l.length < 4611686018427387904 by omega), Bool.not_true, cond_false, Bool.and_self, and_self]
  · rw [e0, hs]; exact ⟨rfl, rfl⟩
end Go.Dv
