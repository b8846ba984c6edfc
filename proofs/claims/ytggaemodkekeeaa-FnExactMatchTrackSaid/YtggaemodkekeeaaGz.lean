/- Lw, Lx: merged by merge.py. -/
/- Fz, Gk, Gw, Gx: merged by merge.py. -/
import Derived.Test.YtggaemodkekeeaaGa
import Derived.Test.YtggaemodkekeeaaNc

/- The program's plain functions are the reference's. No program is in sight. -/
namespace Go.Dv
open Go.Cv
open Ieee

theorem cos_eq (a : Nat) : p_impl_cosine R a = p_spec_l02Cosine R a := sine_eq _
theorem way_eq (a b : Nat) : p_impl_Place_way R a b = p_spec_l02Way R a b := by
  unfold p_impl_Place_way p_spec_l02Way
  simp only [cos_eq, sine_eq]
theorem dot_eq (a b c d e f : Nat) : p_impl_dotOf R a b c d e f = p_spec_l02Dot R a b c d e f := rfl
theorem cross_eq (a b c d e f : Nat) : p_impl_cross R a b c d e f = p_spec_l02Cross R a b c d e f := rfl
theorem long_eq (a b c : Nat) : p_impl_Way_long R a b c = p_spec_l02Long R a b c := rfl
theorem apart_eq (a b c d : Nat) : p_impl_apart R a b c d = p_spec_l02Apart R a b c d := by
  unfold p_impl_apart p_spec_l02Apart
  simp only [c0_impl_apart, c1_impl_apart, c2_impl_apart, c0_spec_l02Apart, c1_spec_l02Apart, c2_spec_l02Apart, way_eq, ang_eq, long_eq, dot_eq, cross_eq]
/-! ### what is compared -/
theorem sameFloat_refl (x : Nat) : p_laws_sameFloat R x x = true := by
  unfold p_laws_sameFloat
  simp only [neq_not]
  cases h : R.cmp .eql .f64 x x
  · rfl
  · cases R.cmp .eql .f64 x 0
    · simp
    · simp
theorem eqPlace_refl (x y : Nat) : p_laws_eqPlace R x y x y = true := by
  unfold p_laws_eqPlace
  rw [sameFloat_refl, sameFloat_refl]; rfl

end Go.Dv

/- The program's plain functions are the reference's (part 2). No program is in sight. -/
namespace Go.Dv
open Go.Cv
open Ieee

end Go.Dv


/- Words that say the same number are the same; the size of a number. -/
namespace Go.Dv
open Go.Cv
open Ieee

theorem read_cases (f : Format) {a : Nat} {s : Bool} {m : Nat} {e : Int} (h : f.read a = .number s m e) :
    s = (a / f.signWeight % 2 == 1) ∧ ((a % f.signWeight < f.binade ∧ m = a % f.signWeight ∧ e = f.leastPlace) ∨
      (f.binade ≤ m ∧ m < 2 * f.binade ∧ ∃ d : Nat, e = f.leastPlace + d ∧ a % f.signWeight = d * f.binade + m)) := by
  unfold Format.read at h
  have hB : 0 < f.binade := Nat.two_pow_pos _
  simp only at h
  generalize hr : a % f.signWeight = r at *
  by_cases h1 : r < f.binade
  · rw [if_pos h1] at h
    cases h
    exact ⟨rfl, .inl ⟨h1, rfl, rfl⟩⟩
  · rw [if_neg h1] at h
    by_cases h2 : r < f.infRung
    · rw [if_pos h2] at h
      cases h
      have h3 : r % f.binade < f.binade := Nat.mod_lt _ hB
      refine ⟨rfl, .inr ⟨by omega, by omega, r / f.binade - 1, rfl, ?_⟩⟩
      have h4 : 1 ≤ r / f.binade := (Nat.le_div_iff_mul_le hB).2 (by omega)
      have h5 : r / f.binade * f.binade + r % f.binade = r := by rw [Nat.mul_comm]; exact Nat.div_add_mod r f.binade
      have h6 : r / f.binade * f.binade = (r / f.binade - 1) * f.binade + f.binade := by
        rw [← Nat.succ_mul]; congr 1; omega
      omega
    · rw [if_neg h2] at h
      by_cases h3 : r = f.infRung
      · rw [if_pos h3] at h; cases h
      · rw [if_neg h3] at h; cases h

end Go.Dv

/- Bounds of both kinds of floats; what is the same number in other digits; halves. -/
namespace Go.Dv
open Go.Cv
open Ieee

/-- a number no greater than a power of two -/
def Bk (k : FloatKind) (a : Nat) (E : Int) : Prop := Nm k a ∧ fv k a ≤ p2 E ∧ -(fv k a) ≤ p2 E

theorem bk_mono {k : FloatKind} {a : Nat} {E F : Int} (h : Bk k a E) (hE : E ≤ F) : Bk k a F := by
  have := p2_mono hE
  exact ⟨h.1, by have := h.2.1; grind, by have := h.2.2; grind⟩
theorem bk_mul {k : FloatKind} {a b : Nat} {E F : Int} (ha : Bk k a E) (hb : Bk k b F) (h1 : loP k ≤ E + F) (h2 : E + F ≤ hiP k) : Bk k (R.bin .mul k a b) (E + F) := by
  obtain ⟨h3, h4⟩ := mul_bound ha.2.1 ha.2.2 hb.2.1 hb.2.2
  rw [← p2_add] at h3 h4
  exact (rd_mul ha.1 hb.1).le _ h1 h2 h3 h4
theorem bk_add {k : FloatKind} {a b : Nat} {E : Int} (ha : Bk k a E) (hb : Bk k b E) (h1 : loP k ≤ E + 1) (h2 : E + 1 ≤ hiP k) : Bk k (R.bin .add k a b) (E + 1) := by
  have := p2_succ E
  have := ha.2.1; have := ha.2.2; have := hb.2.1; have := hb.2.2
  exact (rd_add ha.1 hb.1).le _ h1 h2 (by grind) (by grind)
theorem bk_sub {k : FloatKind} {a b : Nat} {E : Int} (ha : Bk k a E) (hb : Bk k b E) (h1 : loP k ≤ E + 1) (h2 : E + 1 ≤ hiP k) : Bk k (R.bin .sub k a b) (E + 1) := by
  have := p2_succ E
  have := ha.2.1; have := ha.2.2; have := hb.2.1; have := hb.2.2
  exact (rd_sub ha.1 hb.1).le _ h1 h2 (by grind) (by grind)
/-- what fits, narrowed -/
theorem nar_form {x : Nat} {s : Bool} {m : Nat} {e : Int} (hx : FloatKind.f64.format.read x = .number s m e) (h : R.narOk x = true) : R.nar x = FloatKind.f32.format.nearest s m e := by
  have hn : isNan .f64 x = false := nm_not_nan ⟨_, _, _, hx⟩
  have key : fconv .f64 x .f32 = bif (FloatKind.f32.format.read (FloatKind.f32.format.nearest s m e)).isInfinity then none else some (FloatKind.f32.format.nearest s m e) := by
    unfold fconv floatToFloatBits FloatKind.decode FloatKind.encode
    rw [hn, hx]
    cases hc : (FloatKind.f32.format.read (FloatKind.f32.format.nearest s m e)).isInfinity <;> simp [Format.write, hc]
  have h : (fconv .f64 x .f32).isSome = true := h
  show (fconv .f64 x .f32).getD 0 = _
  rw [key] at h ⊢
  cases hc : (FloatKind.f32.format.read (FloatKind.f32.format.nearest s m e)).isInfinity
  · rfl
  · rw [hc] at h; cases h
theorem bk_nar {x : Nat} {E : Int} (h : Bd x E) (h1 : -149 ≤ E) (h2 : E ≤ 127) : Bk .f32 (R.nar x) E := by
  have hk := bd_narOk h h2
  obtain ⟨⟨s, m, e, hr⟩, h3, h4⟩ := h
  rw [nar_form hr hk]
  unfold fv at h3 h4
  rw [hr] at h3 h4
  exact (rd_nearest .f32 s m e).le E h1 h2 h3 h4

/-! ### products in both orders -/
/-! ### the same number in other digits -/
/-! ### a difference against a number of few digits -/
end Go.Dv

/- Rounding keeps the order against every word; the cosine is not small between -0.24 and 0.24; an east that is wrapped is one. -/
namespace Go.Dv
open Go.Cv
open Ieee

theorem read_fits (k : FloatKind) {a : Nat} {s : Bool} {m : Nat} {e : Int} (h : k.format.read a = .number s m e) : m ≤ 2 * k.format.binade ∧ loP k ≤ e ∧ mg m e < topOf k.format := by
  have hB : 0 < k.format.binade := Nat.two_pow_pos _
  have hlt : a % k.format.signWeight < k.format.infRung := by
    have h' := h
    unfold Format.read at h'
    simp only at h'
    have hb : k.format.binade ≤ k.format.infRung := by cases k <;> decide
    split at h'
    · rename_i h1; omega
    · split at h'
      · rename_i h2; exact h2
      · split at h' <;> cases h'
  obtain ⟨_, c⟩ := read_cases k.format h
  have hl := least_eq k
  have h3 := exp3 k
  have hr : k.format.infRung = (2 ^ k.format.exponentBits - 1) * k.format.binade := rfl
  have key : ∀ d : Nat, d * k.format.binade + m < k.format.infRung → k.format.binade ≤ m → m < 2 * k.format.binade → mg m (k.format.leastPlace + d) < topOf k.format := by
    intro d h1 h2 h6
    have h4 : (d + 1) * k.format.binade < (2 ^ k.format.exponentBits - 1) * k.format.binade := by rw [Nat.add_mul, Nat.one_mul, ← hr]; omega
    have h5 : d + 1 < 2 ^ k.format.exponentBits - 1 := Nat.lt_of_mul_lt_mul_right h4
    have h8 : k.format.leastPlace + (d : Int) + 1 ≤ k.format.leastPlace + ((2 ^ k.format.exponentBits - 2 : Nat) : Int) := by
      generalize 2 ^ k.format.exponentBits = Z at h5 ⊢
      omega
    have h9 : mg (2 * k.format.binade) (k.format.leastPlace + d) ≤ topOf k.format := by
      rw [mg_double]; exact mg_mono h8
    refine Rat.not_le.1 fun hc => ?_
    have := mg_le.1 (Rat.le_trans h9 hc)
    omega
  rcases c with ⟨x1, x2, x3⟩ | ⟨x1, x2, d, x3, x4⟩
  · refine ⟨by omega, by omega, ?_⟩
    refine top_of (by omega) ?_
    have : loP k + 1 ≤ topE k := by cases k <;> decide
    rw [x3]; omega
  · refine ⟨by omega, by omega, ?_⟩
    rw [x3]; exact key d (by omega) x1 x2

/-- the word n is v, rounded: no word lies between -/
structure Rc (k : FloatKind) (v : Rat) (n : Nat) : Prop where
  le : ∀ c, Nm k c → Nm k n → v ≤ fv k c → fv k n ≤ fv k c
  ge : ∀ c, Nm k c → Nm k n → fv k c ≤ v → fv k c ≤ fv k n

theorem rc_nearest (k : FloatKind) (s : Bool) (m : Nat) (e : Int) : Rc k (vd (.number s m e)) (k.format.nearest s m e) := by
  have up : ∀ mc ec, mc ≤ 2 * k.format.binade → loP k ≤ ec → mg mc ec < topOf k.format → mg m e ≤ mg mc ec → ∀ s' m' e', k.format.read (k.format.nearest s m e) = .number s' m' e' → mg m' e' ≤ mg mc ec := by
    intro mc ec h1 h2 h3 h4 s' m' e' hr
    obtain ⟨m2, e2, r2, h5⟩ := nearest_le k.format (exp3 k) s m e mc ec h1 (by rw [least_eq]; exact h2) h3 h4
    rw [hr] at r2; cases r2; exact h5
  have dn : ∀ mc ec, mc ≤ 2 * k.format.binade → loP k ≤ ec → mg mc ec ≤ mg m e → ∀ s' m' e', k.format.read (k.format.nearest s m e) = .number s' m' e' → mg mc ec ≤ mg m' e' := by
    intro mc ec h1 h2 h4 s' m' e' hr
    have hs := nearest_sign k.format (exp3 k) s m e hr
    subst hs
    exact nearest_ge k.format (exp3 k) s' m e mc ec h1 (by rw [least_eq]; exact h2) h4 hr
  have hg := mg_nonneg m e
  constructor
  · intro c ⟨t, mc, ec, hc⟩ ⟨s', m', e', hn⟩ h
    obtain ⟨f1, f2, f3⟩ := read_fits k hc
    have hs := nearest_sign k.format (exp3 k) s m e hn
    subst hs
    have hgc := mg_nonneg mc ec
    have hg' := mg_nonneg m' e'
    unfold fv at h ⊢
    rw [hc] at h ⊢; rw [hn]
    cases s' <;> cases t <;> simp only [vd_true, vd_false] at h ⊢
    · exact up mc ec f1 f2 f3 h _ _ _ hn
    · have := up mc ec f1 f2 f3 (by grind) _ _ _ hn
      grind
    · grind
    · have := dn mc ec f1 f2 (by grind) _ _ _ hn
      grind
  · intro c ⟨t, mc, ec, hc⟩ ⟨s', m', e', hn⟩ h
    obtain ⟨f1, f2, f3⟩ := read_fits k hc
    have hs := nearest_sign k.format (exp3 k) s m e hn
    subst hs
    have hgc := mg_nonneg mc ec
    have hg' := mg_nonneg m' e'
    unfold fv at h ⊢
    rw [hc] at h ⊢; rw [hn]
    cases s' <;> cases t <;> simp only [vd_true, vd_false] at h ⊢
    · exact dn mc ec f1 f2 h _ _ _ hn
    · grind
    · have := up mc ec f1 f2 f3 (by grind) _ _ _ hn
      grind
    · have := up mc ec f1 f2 f3 (by grind) _ _ _ hn
      grind

theorem rc_add {k : FloatKind} {a b : Nat} (ha : Nm k a) (hb : Nm k b) : Rc k (fv k a + fv k b) (R.bin .add k a b) := by
  obtain ⟨s, m, i, ha⟩ := ha
  obtain ⟨t, n, j, hb⟩ := hb
  obtain ⟨s', m', e', hs, hv⟩ := sum_num s m i t n j
  have : R.bin .add k a b = k.format.nearest s' m' e' := by
    show (k.format.add a b).getD (nanOf k) = _
    unfold Format.add
    rw [ha, hb, hs]; rfl
  rw [this]; unfold fv; rw [ha, hb, ← hv]
  exact rc_nearest k s' m' e'
theorem rc_sub {k : FloatKind} {a b : Nat} (ha : Nm k a) (hb : Nm k b) : Rc k (fv k a - fv k b) (R.bin .sub k a b) := by
  obtain ⟨s, m, i, ha⟩ := ha
  obtain ⟨t, n, j, hb⟩ := hb
  obtain ⟨s', m', e', hs, hv⟩ := sum_num s m i (!t) n j
  have : R.bin .sub k a b = k.format.nearest s' m' e' := by
    show (k.format.sub a b).getD (nanOf k) = _
    unfold Format.sub
    rw [ha, hb, show (Datum.number t n j).opposite = .number (!t) n j from rfl, hs]; rfl
  have h2 : vd (.number (!t) n j) = -(vd (.number t n j)) := neg_num t n j
  rw [this]; unfold fv; rw [ha, hb, Rat.sub_eq_add_neg, ← h2, ← hv]
  exact rc_nearest k s' m' e'
theorem rc_mul {k : FloatKind} {a b : Nat} (ha : Nm k a) (hb : Nm k b) : Rc k (fv k a * fv k b) (R.bin .mul k a b) := by
  obtain ⟨s, m, i, ha⟩ := ha
  obtain ⟨t, n, j, hb⟩ := hb
  obtain ⟨hs, hv⟩ := product_num s m i t n j
  have : R.bin .mul k a b = k.format.nearest (s ^^ t) (m * n) (i + j) := by
    show (k.format.mul a b).getD (nanOf k) = _
    unfold Format.mul
    rw [ha, hb, hs]; rfl
  rw [this]; unfold fv; rw [ha, hb, ← hv]
  exact rc_nearest k _ _ _

/-! ### the cosine from below -/
theorem sin_den6 : ∀ k < 8, 6 ≤ fv .f64 (R.ofi .f64 (2 * ((k : Nat) + 1) * (2 * ((k : Nat) + 1) + 1))) := by decide +kernel
theorem nm_three : Nm .f64 4613937818241073152 := ⟨_, _, _, rfl⟩
theorem fv_three : fv .f64 4613937818241073152 = 3 := by decide +kernel
theorem nm_13 : Nm .f64 4609997168567123968 := ⟨_, _, _, rfl⟩
theorem fv_13 : fv .f64 4609997168567123968 = 13 / 8 := by decide +kernel
theorem p2_m1 : p2 (-1) = 1 / 2 := by decide +kernel
theorem turn_lo : 4 ≤ fv .f64 4618760256179416344 := by decide +kernel
theorem turn_hi : fv .f64 4618760256179416344 ≤ 13 / 2 := by decide +kernel

theorem sinPoly_half {u : Nat} (hu : Nm .f64 u) (u0 : 0 ≤ fv .f64 u) (u3 : fv .f64 u ≤ 3) : ∀ (k : Nat), k ≤ 8 → ∀ (p : Nat), Nm .f64 p → 1 / 2 ≤ fv .f64 p → fv .f64 p ≤ 1 →
    Nm .f64 (sinPoly R u k p) ∧ 1 / 2 ≤ fv .f64 (sinPoly R u k p) ∧ fv .f64 (sinPoly R u k p) ≤ 1 := by
  intro k
  induction k with
  | zero => intro _ p h h1 h2; exact ⟨h, h1, h2⟩
  | succ k ih =>
    intro hk p h h1 h2
    unfold sinPoly
    obtain ⟨d1, _⟩ := sin_den k (by omega)
    have d6 := sin_den6 k (by omega)
    generalize R.ofi .f64 (2 * ((k : Nat) + 1) * (2 * ((k : Nat) + 1) + 1)) = d at *
    have m0 : 0 ≤ fv .f64 u * fv .f64 p := Rat.mul_nonneg u0 (by grind)
    have m3 : fv .f64 u * fv .f64 p ≤ 3 := by
      have := Rat.mul_le_mul_of_nonneg_left h2 u0
      grind
    have p22 : p2 2 = 4 := by decide +kernel
    obtain ⟨hN, _, _⟩ := (rd_mul hu h).le 2 (by decide) (by decide) (by rw [p22]; grind) (by rw [p22]; grind)
    have c3 := (rc_mul hu h).le _ nm_three hN (by rw [fv_three]; exact m3)
    rw [fv_three] at c3
    have c0 := (rd_mul hu h).pos m0 hN
    generalize R.bin .mul .f64 u p = up at *
    have hd0 : 0 < fv .f64 d := by grind
    have hdn : fv .f64 d ≠ 0 := by grind
    have q1 : fv .f64 up / fv .f64 d ≤ 1 / 2 := by
      refine Rat.le_of_mul_le_mul_right ?_ hd0
      rw [Rat.div_mul_cancel hdn]; grind
    have q0 : 0 ≤ fv .f64 up / fv .f64 d := by
      rw [Rat.div_def]; exact Rat.mul_nonneg c0 (Rat.le_of_lt (Rat.inv_pos.2 hd0))
    have hq := rd_quo hN d1 hdn
    obtain ⟨hNq, q2, _⟩ := hq.le (-1) (by decide) (by decide) (by rw [p2_m1]; exact q1) (by rw [p2_m1]; grind)
    rw [p2_m1] at q2
    have q3 := hq.pos q0 hNq
    generalize R.bin .quo .f64 up d = q at *
    have hs := rd_sub bd_one.1 hNq
    rw [fv_one] at hs
    obtain ⟨hNs, s1, _⟩ := hs.le 0 (by decide) (by decide) (by rw [p2_zero]; grind) (by rw [p2_zero]; grind)
    rw [p2_zero] at s1
    have s2 := hs.ge (-1) (by decide) hNs (by rw [p2_m1]; grind)
    rw [p2_m1] at s2
    exact ih (by omega) _ hNs s2 s1

theorem fv_q32 : fv .f32 1048576000 = 1 / 4 := by decide +kernel
theorem nm_q32 : Nm .f32 1048576000 := ⟨_, _, _, rfl⟩
theorem fv_q64 : fv .f64 4598175219545276416 = 1 / 4 := by decide +kernel

end Go.Dv

/- An east that is wrapped lies between -0.5 and 0.5. -/
namespace Go.Dv
open Go.Cv
open Ieee

theorem nm_h32 : Nm .f32 1056964608 := ⟨_, _, _, rfl⟩
theorem fv_h32 : fv .f32 1056964608 = 1 / 2 := by decide +kernel
theorem nm_nh32 : Nm .f32 3204448256 := ⟨_, _, _, rfl⟩
theorem fv_nh32 : fv .f32 3204448256 = -(1 / 2) := by decide +kernel
/-- between -0.5 and 0.5 -/
def InH (x : Nat) : Prop := Nm .f32 x ∧ -(1 / 2) ≤ fv .f32 x ∧ fv .f32 x < 1 / 2

end Go.Dv
