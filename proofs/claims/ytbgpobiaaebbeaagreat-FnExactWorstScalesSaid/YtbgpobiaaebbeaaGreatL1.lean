/- The least and the greatest scale of a list: both texts are the same. -/
import Derived.Test.YtbgpobiaaebbeaaGreatLu
import Derived.Test.YtbgpobiaaebbeaaGreatLv
import Derived.Test.YtbgpobiaaebbeaaGreatLc
import Derived.Test.YtbgpobiaaebbeaaGreatWv
set_option linter.unusedSimpArgs false
namespace Go.Dv
open Go.Cv
open Ieee

/-! ### words without a sign -/
def Pw (k : FloatKind) (w : Nat) : Prop := ∃ m e, k.format.read w = .number false m e
theorem Pw.nm {k : FloatKind} {w : Nat} (h : Pw k w) : Nm k w := by obtain ⟨m, e, h⟩ := h; exact ⟨_, _, _, h⟩
theorem Pw.nonneg {k : FloatKind} {w : Nat} (h : Pw k w) : 0 ≤ fv k w := by
  obtain ⟨m, e, h⟩ := h
  unfold fv; rw [h, vd_false]; exact mg_nonneg m e
theorem pw_of {k : FloatKind} {m : Nat} {e : Int} {r : Nat} (h : r = k.format.nearest false m e) (hr : Nm k r) : Pw k r := by
  obtain ⟨s, m', e', hr⟩ := hr
  rw [h] at hr
  obtain rfl := nearest_sign k.format (exp3 k) false m e hr
  rw [← h] at hr
  exact ⟨_, _, hr⟩
theorem pw_square {k : FloatKind} {a : Nat} (ha : Nm k a) (hr : Nm k (R.bin .mul k a a)) : Pw k (R.bin .mul k a a) := by
  obtain ⟨s, m, i, ha⟩ := ha
  refine pw_of (m := m * m) (e := i + i) ?_ hr
  obtain ⟨hs, _⟩ := product_num s m i s m i
  show (k.format.mul a a).getD (nanOf k) = _
  unfold Format.mul
  rw [ha, hs, Bool.xor_self]; rfl
theorem signed_nonneg (m u : Nat) : 0 ≤ signed false m u := by
  unfold signed
  rw [if_neg (by decide)]
  exact Int.natCast_nonneg _
theorem sum_form (s : Bool) (m : Nat) (i : Int) (t : Bool) (n : Nat) (j : Int) : (Datum.number s m i).sum (.number t n j) =
    some (.number (if signed s m (i - min i j).toNat + signed t n (j - min i j).toNat = 0 then s && t else decide (signed s m (i - min i j).toNat + signed t n (j - min i j).toNat < 0)) (signed s m (i - min i j).toNat + signed t n (j - min i j).toNat).natAbs (min i j)) := rfl
theorem pw_add {k : FloatKind} {a b : Nat} (ha : Pw k a) (hb : Pw k b) (hr : Nm k (R.bin .add k a b)) : Pw k (R.bin .add k a b) := by
  obtain ⟨m, i, ha⟩ := ha
  obtain ⟨n, j, hb⟩ := hb
  have key : ∃ m' e', (Datum.number false m i).sum (.number false n j) = some (.number false m' e') := by
    rw [sum_form]
    have hsig : (if signed false m (i - min i j).toNat + signed false n (j - min i j).toNat = 0 then false && false else decide (signed false m (i - min i j).toNat + signed false n (j - min i j).toNat < 0)) = false := by
      split
      · rfl
      · refine decide_eq_false ?_
        have h1 := signed_nonneg m (i - min i j).toNat
        have h2 := signed_nonneg n (j - min i j).toNat
        omega
    rw [hsig]; exact ⟨_, _, rfl⟩
  obtain ⟨m', e', hs⟩ := key
  refine pw_of (m := m') (e := e') ?_ hr
  show (k.format.add a b).getD (nanOf k) = _
  unfold Format.add
  rw [ha, hb, hs]; rfl
theorem pw_sqrt {a : Nat} (ha : Pw .f64 a) (hr : Nm .f64 (R.sqrt a)) : Pw .f64 (R.sqrt a) := by
  obtain ⟨m, i, ha⟩ := ha
  have key : ∃ m' e', (Datum.number false m i).root (FloatKind.f64.format.fractionBits + 2) = some (.number false m' e') := by
    unfold Datum.root
    by_cases h0 : m = 0
    · simp only [if_pos h0]; exact ⟨_, _, rfl⟩
    · simp only [if_neg h0, Bool.false_eq_true, if_false]; exact ⟨_, _, rfl⟩
  obtain ⟨m', e', hs⟩ := key
  refine pw_of (m := m') (e := e') ?_ hr
  show fsqrt a = _
  unfold fsqrt Format.sqrt
  rw [ha, hs]; rfl
theorem pw_nar {x : Nat} (hx : Pw .f64 x) (hk : R.narOk x = true) (hr : Nm .f32 (R.nar x)) : Pw .f32 (R.nar x) := by
  obtain ⟨m, e, hx⟩ := hx
  exact pw_of (nar_form hx hk) hr
theorem nm_zero32 : Nm .f32 0 := ⟨_, _, _, rfl⟩
theorem fv_zero32' : fv .f32 0 = 0 := by decide +kernel
theorem pw_size {x : Nat} (hx : Nm .f32 x) : Pw .f32 (p_spec_l02Size R x) := by
  have hN := nm_size hx
  unfold p_spec_l02Size at hN ⊢
  rw [leq_nm hx nm_zero32, fv_zero32'] at hN ⊢
  by_cases hc : fv .f32 x ≤ 0
  · rw [decide_eq_true hc, cond_true] at hN ⊢
    obtain ⟨s, m, e, hr⟩ := hx
    have hv : fv .f32 x = vd (.number s m e) := by unfold fv; rw [hr]
    have r0 : FloatKind.f32.format.read 0 = .number false 0 (-149) := by decide
    have key : ∃ m' e', (Datum.number false 0 (-149)).sum (.number (!s) m e) = some (.number false m' e') := by
      rw [sum_form]
      have hsig : (if signed false 0 ((-149) - min (-149) e).toNat + signed (!s) m (e - min (-149) e).toNat = 0 then false && !s else decide (signed false 0 ((-149) - min (-149) e).toNat + signed (!s) m (e - min (-149) e).toNat < 0)) = false := by
        split
        · rfl
        · rename_i hne
          refine decide_eq_false ?_
          cases s
          · rw [hv, vd_false] at hc
            have hm : m = 0 := by
              rcases Nat.eq_zero_or_pos m with h | h
              · exact h
              · exfalso
                have h1 : mg 1 e ≤ mg m e := mg_le.2 h
                rw [← p2_mg] at h1
                have := p2_pos e
                grind
            subst hm
            unfold signed at hne
            simp at hne
          · have h1 := signed_nonneg 0 ((-149) - min (-149) e).toNat
            have h2 := signed_nonneg m (e - min (-149) e).toNat
            rw [Bool.not_true]
            omega
      rw [hsig]; exact ⟨_, _, rfl⟩
    obtain ⟨m', e', hs⟩ := key
    refine pw_of (m := m') (e := e') ?_ hN
    show (FloatKind.f32.format.sub 0 x).getD (nanOf .f32) = _
    unfold Format.sub
    rw [r0, hr]
    show (((Datum.number false 0 (-149)).sum (.number (!s) m e)).map FloatKind.f32.format.write).getD _ = _
    rw [hs]; rfl
  · rw [decide_eq_false hc, cond_false] at hN ⊢
    obtain ⟨s, m, e, hr⟩ := hx
    have hv : fv .f32 x = vd (.number s m e) := by unfold fv; rw [hr]
    cases s
    · exact ⟨_, _, hr⟩
    · rw [hv, vd_true] at hc
      have := mg_nonneg m e
      exfalso; exact hc (by grind)

theorem pw_long {x y : Nat} {E : Int} (hx : Bk .f32 x E) (hy : Bk .f32 y E) (h0 : 0 ≤ E) (h1 : E ≤ 100) : Pw .f32 (p_spec_l01Long R x y) := by
  have wx := bk_wid hx
  have wy := bk_wid hy
  have mx := bd_mul wx wx (by omega) (by omega)
  have my := bd_mul wy wy (by omega) (by omega)
  have s := bd_add mx my (by omega) (by omega)
  have hb := long_root hx hy h0 h1
  have hk := bd_narOk hb (by omega)
  have hl := (long_ok hx hy h0 h1).2.2
  exact pw_nar (pw_sqrt (pw_add (pw_square wx.1 mx.1) (pw_square wy.1 my.1) s.1) hb.1) hk hl.1

/-- the greater and the lesser axis -/
def AxOk (x y : Nat) : Prop := Pw .f32 x ∧ Pw .f32 y ∧ fv .f32 y ≤ fv .f32 x ∧ x < 4294967296 ∧ y < 4294967296

theorem cw_size {x : Nat} (h : Cw x) : Cw (p_spec_l02Size R x) := by
  unfold p_spec_l02Size
  cases R.cmp .leq .f32 x 0
  · exact h
  · exact cw_bin _ _ _

theorem ax_of {X Y : Nat} (hX : Pw .f32 X) (hY : Pw .f32 Y) (hs : Nm .f32 (R.bin .add .f32 X Y)) (hd : Nm .f32 (R.bin .sub .f32 X Y)) : AxOk (R.bin .add .f32 X Y) (p_spec_l02Size R (R.bin .sub .f32 X Y)) := by
  refine ⟨pw_add hX hY hs, pw_size hd, ?_, (cw_bin _ _ _).1, (cw_size (cw_bin _ _ _)).1⟩
  have x0 := hX.nonneg
  have y0 := hY.nonneg
  have ra := rc_add hX.nm hY.nm
  have rs := rc_sub hX.nm hY.nm
  have a1 := ra.ge X hX.nm hs (by grind)
  have a2 := ra.ge Y hY.nm hs (by grind)
  have s1 := rs.le X hX.nm hd (by grind)
  have hN := nm_size hd
  unfold p_spec_l02Size at hN ⊢
  rw [leq_nm hd nm_zero32, fv_zero32'] at hN ⊢
  by_cases hc : fv .f32 (R.bin .sub .f32 X Y) ≤ 0
  · rw [decide_eq_true hc, cond_true] at hN ⊢
    have rz := rc_sub nm_zero32 hd
    rw [fv_zero32'] at rz
    refine Rat.le_trans ?_ a2
    refine rz.le Y hY.nm hN ?_
    -- what is taken away is no more than Y
    obtain ⟨m, e, hr⟩ := hY
    obtain ⟨b1, b2, b3⟩ := read32_e Y hr
    obtain ⟨m3, e3, r3, v3⟩ := nearest_exact FloatKind.f32.format (exp3 .f32) true m e m e (by rw [B32]; omega) (by rw [least_eq]; exact b2) b3 rfl
    have hY' : fv .f32 Y = mg m e := by unfold fv; rw [hr]; rfl
    have hc' : fv .f32 (FloatKind.f32.format.nearest true m e) = -(fv .f32 Y) := by rw [hY']; unfold fv; rw [r3, vd_true, v3]
    have := rs.ge (FloatKind.f32.format.nearest true m e) ⟨_, _, _, r3⟩ hd (by rw [hc']; grind)
    rw [hc'] at this
    grind
  · rw [decide_eq_false hc, cond_false]
    exact Rat.le_trans s1 a1

theorem axes_pos {k : Int} {a b f c d : Nat} (h : (p_spec_l03Axes R k a b f c d).2.2.2 = true) : AxOk (p_spec_l03Axes R k a b f c d).1 (p_spec_l03Axes R k a b f c d).2.1 := by
  rcases steps_bk k a b f c d with ⟨h1, h2⟩ | ⟨u0, u1, v0, v1, h1, h2, b1, b2, b3, b4⟩
  · unfold p_spec_l03Axes c0_spec_l03Axes at h
    rw [h2] at h; cases h
  · have one := bk_mono bk_one32 (show (0 : Int) ≤ 35 by decide)
    obtain ⟨l1, l2, l3, l4⟩ := mul_ok b3 b4 (bk_zero32 35) one (by decide) (by decide)
    have s0 : c0_spec_l03Axes R k a b f c d = (u0, u1, v0, v1, true) := h2
    have s1 : c1_spec_l03Axes R k a b f c d = p_spec_l01Mul R v0 v1 0 1065353216 := by unfold c1_spec_l03Axes; rw [s0]
    generalize hw : p_spec_l01Mul R v0 v1 0 1065353216 = w at *
    have s2 : c2_spec_l03Axes R k a b f c d = p_spec_l01Scale R (R.bin .sub .f32 u0 w.1) (R.bin .sub .f32 u1 w.2) 1056964608 := by unfold c2_spec_l03Axes; rw [s0, s1]
    have s3 : c3_spec_l03Axes R k a b f c d = p_spec_l01Scale R (R.bin .add .f32 u0 w.1) (R.bin .add .f32 u1 w.2) 1056964608 := by unfold c3_spec_l03Axes; rw [s0, s1]
    have m35 : (35 : Int) ≤ 35 + 35 + 1 := by decide
    have p1 := bk_mul (bk_sub (bk_mono b1 m35) l3 (by decide) (by decide)) half32 (by decide) (by decide)
    have p2' := bk_mul (bk_sub (bk_mono b2 m35) l4 (by decide) (by decide)) half32 (by decide) (by decide)
    have q1 := bk_mul (bk_add (bk_mono b1 m35) l3 (by decide) (by decide)) half32 (by decide) (by decide)
    have q2 := bk_mul (bk_add (bk_mono b2 m35) l4 (by decide) (by decide)) half32 (by decide) (by decide)
    obtain ⟨g1, g2, g3⟩ := long_ok p1 p2' (by decide) (by decide)
    obtain ⟨o1, o2, o3⟩ := long_ok q1 q2 (by decide) (by decide)
    have gp := pw_long p1 p2' (by decide) (by decide)
    have op := pw_long q1 q2 (by decide) (by decide)
    rw [scale_eq] at s2 s3
    generalize R.bin .mul .f32 (R.bin .sub .f32 u0 w.1) 1056964608 = x0 at *
    generalize R.bin .mul .f32 (R.bin .sub .f32 u1 w.2) 1056964608 = x1 at *
    generalize R.bin .mul .f32 (R.bin .add .f32 u0 w.1) 1056964608 = y0 at *
    generalize R.bin .mul .f32 (R.bin .add .f32 u1 w.2) 1056964608 = y1 at *
    have hdiff := bk_sub g3 o3 (by decide) (by decide)
    have hsum := bk_add g3 o3 (by decide) (by decide)
    have key := ax_of gp op hsum.1 hdiff.1
    unfold p_spec_l03Axes c7_spec_l03Axes c6_spec_l03Axes c5_spec_l03Axes c4_spec_l03Axes at h ⊢
    rw [s0, s2, s3] at h ⊢
    simp only [Bool.not_true, cond_false] at h ⊢
    generalize (!(R.cmp .eql .f32 x0 0 && R.cmp .eql .f32 x1 0)) = t1 at *
    generalize (!(R.cmp .eql .f32 y0 0 && R.cmp .eql .f32 y1 0)) = t2 at *
    generalize R.bin .add .f32 (p_spec_l01Long R x0 x1) (p_spec_l01Long R y0 y1) = A at *
    generalize R.bin .mul .f32 1056964608 (R.bin .add .f32 (p_spec_AngleOf R x0 x1) (p_spec_AngleOf R y0 y1)) = B at *
    generalize p_spec_l02Size R (R.bin .sub .f32 (p_spec_l01Long R x0 x1) (p_spec_l01Long R y0 y1)) = C at *
    generalize p_spec_l01Finite R A = f1 at *
    generalize p_spec_l01Finite R B = f2 at *
    generalize p_spec_l01Finite R 0 = f0 at *
    cases t1 <;> cases t2 <;> cases f1 <;> cases f2 <;> cases f0 <;> first | (cases h; done) | exact key

/-! ### the less, the greater -/
theorem pw_inj {a b : Nat} (ha : Pw .f32 a) (hb : Pw .f32 b) (la : a < 4294967296) (lb : b < 4294967296) (h : fv .f32 a = fv .f32 b) : a = b := by
  obtain ⟨m, e, ha⟩ := ha
  obtain ⟨n, i, hb⟩ := hb
  have hS : 2 * FloatKind.f32.format.signWeight = 4294967296 := by decide
  refine word_inj FloatKind.f32.format (by rw [hS]; exact la) (by rw [hS]; exact lb) ha hb ?_
  unfold fv at h; rw [ha, hb] at h; exact h
noncomputable def lessW (m y : Nat) : Nat := bif R.cmp .lss .f32 y m then y else m
noncomputable def moreW (m x : Nat) : Nat := bif R.cmp .gtr .f32 x m then x else m
def Pc (w : Nat) : Prop := Pw .f32 w ∧ w < 4294967296
theorem minW_eq {a b : Nat} (ha : Pc a) (hb : Pc b) : p_minW R .f32 a b = lessW a b := by
  unfold p_minW lessW
  rw [lss_nm ha.1.nm hb.1.nm, gtr_nm ha.1.nm hb.1.nm, eql_nm ha.1.nm hb.1.nm, lss_nm hb.1.nm ha.1.nm]
  by_cases h1 : fv .f32 a < fv .f32 b
  · rw [decide_eq_true h1, decide_eq_false (by grind : ¬ fv .f32 b < fv .f32 a)]; rfl
  · by_cases h2 : fv .f32 b < fv .f32 a
    · rw [decide_eq_false h1, decide_eq_true h2]; rfl
    · have he : fv .f32 a = fv .f32 b := by grind
      obtain rfl := pw_inj ha.1 hb.1 ha.2 hb.2 he
      rw [decide_eq_false h1, decide_eq_true rfl]
      cases (FloatKind.f32.decode a).neg <;> rfl
theorem maxW_eq {a b : Nat} (ha : Pc a) (hb : Pc b) : p_maxW R .f32 a b = moreW a b := by
  unfold p_maxW moreW
  rw [lss_nm ha.1.nm hb.1.nm, gtr_nm ha.1.nm hb.1.nm, eql_nm ha.1.nm hb.1.nm, gtr_nm hb.1.nm ha.1.nm]
  by_cases h1 : fv .f32 a < fv .f32 b
  · rw [decide_eq_true h1]; rfl
  · by_cases h2 : fv .f32 b < fv .f32 a
    · rw [decide_eq_false h1, decide_eq_true h2]; rfl
    · have he : fv .f32 a = fv .f32 b := by grind
      obtain rfl := pw_inj ha.1 hb.1 ha.2 hb.2 he
      rw [decide_eq_false h1, decide_eq_true rfl]
      cases (FloatKind.f32.decode a).neg <;> rfl
theorem pc_less {a b : Nat} (ha : Pc a) (hb : Pc b) : Pc (lessW a b) := by
  unfold lessW; cases R.cmp .lss .f32 b a
  · exact ha
  · exact hb
theorem pc_more {a b : Nat} (ha : Pc a) (hb : Pc b) : Pc (moreW a b) := by
  unfold moreW; cases R.cmp .gtr .f32 b a
  · exact ha
  · exact hb
theorem less_two {m x y : Nat} (hm : Pc m) (hx : Pc x) (hy : Pc y) (h : fv .f32 y ≤ fv .f32 x) : lessW (lessW m x) y = lessW m y := by
  unfold lessW
  rw [lss_nm hx.1.nm hm.1.nm, lss_nm hy.1.nm hm.1.nm]
  by_cases h1 : fv .f32 x < fv .f32 m
  · rw [decide_eq_true h1, decide_eq_true (show fv .f32 y < fv .f32 m by grind), cond_true, cond_true, lss_nm hy.1.nm hx.1.nm]
    by_cases h2 : fv .f32 y < fv .f32 x
    · rw [decide_eq_true h2]; rfl
    · rw [decide_eq_false h2, cond_false]
      exact pw_inj hx.1 hy.1 hx.2 hy.2 (by grind)
  · rw [decide_eq_false h1, cond_false, lss_nm hy.1.nm hm.1.nm]
theorem less_one {x y : Nat} (hx : Pc x) (hy : Pc y) (h : fv .f32 y ≤ fv .f32 x) : lessW x y = y := by
  unfold lessW
  rw [lss_nm hy.1.nm hx.1.nm]
  by_cases h2 : fv .f32 y < fv .f32 x
  · rw [decide_eq_true h2]; rfl
  · rw [decide_eq_false h2, cond_false]
    exact pw_inj hx.1 hy.1 hx.2 hy.2 (by grind)
theorem more_two {m x y : Nat} (hm : Pc m) (hx : Pc x) (hy : Pc y) (h : fv .f32 y ≤ fv .f32 x) : moreW (moreW m x) y = moreW m x := by
  have hM := pc_more hm hx
  have hle : fv .f32 y ≤ fv .f32 (moreW m x) := by
    unfold moreW
    rw [gtr_nm hx.1.nm hm.1.nm]
    by_cases h1 : fv .f32 m < fv .f32 x
    · rw [decide_eq_true h1, cond_true]; exact h
    · rw [decide_eq_false h1, cond_false]; grind
  generalize moreW m x = M at *
  unfold moreW
  rw [gtr_nm hy.1.nm hM.1.nm, decide_eq_false (by grind)]; rfl
theorem more_one {x y : Nat} (hx : Pc x) (hy : Pc y) (h : fv .f32 y ≤ fv .f32 x) : moreW x y = x := by
  unfold moreW
  rw [gtr_nm hy.1.nm hx.1.nm, decide_eq_false (by grind)]; rfl

/-! ### the loops -/
noncomputable def mnUp (s : List Nat) : Nat → Nat
  | 0 => s.getD 0 0
  | j + 1 => p_minW R .f32 (mnUp s j) (s.getD (j + 1) 0)
noncomputable def mxUp (s : List Nat) : Nat → Nat
  | 0 => s.getD 0 0
  | j + 1 => p_maxW R .f32 (mxUp s j) (s.getD (j + 1) 0)
theorem sub_one_succ {n : Nat} (h : 1 ≤ n) : n - 1 + 1 = n := by omega
theorem slices_min (s : List Nat) (h1 : 1 ≤ s.length) (h : s.length ≤ 1000) : p_slices_Min_float32_float32 R s = mnUp s (s.length - 1) ∧ r_slices_Min_float32_float32 R s = true := by
  have hw := runW_count (step := fun x => st_slices_Min_float32_float32_0 R x.1 x.2.1 x.2.2.1 x.2.2.2.1) (n := s.length - 1) (mk := fun j => (s, mnUp s j, ((j + 1 : Nat) : Int), 0, ())) (o := (mnUp s (s.length - 1), 0, ()))
    (fun j hj => by
      simp only [st_slices_Min_float32_float32_0]
      rw [wrap_succ (by omega), idx_ok (show j + 1 < s.length by omega), idx_in (show j + 1 < s.length by omega), Int.toNat_natCast]
      rfl)
    (by
      simp only [st_slices_Min_float32_float32_0]
      rw [sub_one_succ h1, idx_out]
      rfl)
  have e : c0_slices_Min_float32_float32 R s = some (mnUp s (s.length - 1), 0, ()) := hw
  unfold p_slices_Min_float32_float32 r_slices_Min_float32_float32
  rw [e, decide_eq_false (show ¬ ((s.length : Int) < 1) by omega), decide_eq_true (show (0 : Int) < (s.length : Int) by omega)]
  exact ⟨rfl, rfl⟩
theorem slices_max (s : List Nat) (h1 : 1 ≤ s.length) (h : s.length ≤ 1000) : p_slices_Max_float32_float32 R s = mxUp s (s.length - 1) ∧ r_slices_Max_float32_float32 R s = true := by
  have hw := runW_count (step := fun x => st_slices_Max_float32_float32_0 R x.1 x.2.1 x.2.2.1 x.2.2.2.1) (n := s.length - 1) (mk := fun j => (s, mxUp s j, ((j + 1 : Nat) : Int), 0, ())) (o := (mxUp s (s.length - 1), 0, ()))
    (fun j hj => by
      simp only [st_slices_Max_float32_float32_0]
      rw [wrap_succ (by omega), idx_ok (show j + 1 < s.length by omega), idx_in (show j + 1 < s.length by omega), Int.toNat_natCast]
      rfl)
    (by
      simp only [st_slices_Max_float32_float32_0]
      rw [sub_one_succ h1, idx_out]
      rfl)
  have e : c0_slices_Max_float32_float32 R s = some (mxUp s (s.length - 1), 0, ()) := hw
  unfold p_slices_Max_float32_float32 r_slices_Max_float32_float32
  rw [e, decide_eq_false (show ¬ ((s.length : Int) < 1) by omega), decide_eq_true (show (0 : Int) < (s.length : Int) by omega)]
  exact ⟨rfl, rfl⟩

noncomputable def lsUp (k : Int) (a b f : Nat) (l : List (Nat × Nat)) : Nat → Nat
  | 0 => 0
  | i + 1 => bif ((i : Int) == 0) then (axOf k a b f l i).2.1 else lessW (lsUp k a b f l i) (axOf k a b f l i).2.1
noncomputable def moUp (k : Int) (a b f : Nat) (l : List (Nat × Nat)) : Nat → Nat
  | 0 => 0
  | i + 1 => bif ((i : Int) == 0) then (axOf k a b f l i).1 else moreW (moUp k a b f l i) (axOf k a b f l i).1

theorem spec_worst (k : Int) (a b f : Nat) (l : List (Nat × Nat)) (h : l.length ≤ 64) : ((∀ i, i < l.length → (axOf k a b f l i).2.2.2 = true) ∧ c0_spec_WorstScales R k a b f l = some (.inr (lsUp k a b f l l.length, moUp k a b f l l.length, 0, 0, false, ()))) ∨
    (∃ j, j < l.length ∧ (axOf k a b f l j).2.2.2 = false ∧ c0_spec_WorstScales R k a b f l = some (.inl (0, 0, false, ()))) := by
  exact runW_scan (step := fun x => st_spec_WorstScales_0 R x.1 x.2.2.1 x.2.2.2.1 x.2.2.2.2.1 x.2.2.2.2.2.1 x.2.2.2.2.2.2.1 x.2.2.2.2.2.2.2.1 x.2.2.2.2.2.2.2.2.1 x.2.2.2.2.2.2.2.2.2.1 x.2.2.2.2.2.2.2.2.2.2.1 x.2.2.2.2.2.2.2.2.2.2.2.1 x.2.2.2.2.2.2.2.2.2.2.2.2.1) (n := l.length) (test := fun i => (axOf k a b f l i).2.2.2)
    (mk := fun i => (l, (), k, a, b, f, lsUp k a b f l i, moUp k a b f l i, (l.length : Int), (i : Int), 0, 0, false, ())) (oT := .inr (lsUp k a b f l l.length, moUp k a b f l l.length, 0, 0, false, ())) (oF := fun _ => .inl (0, 0, false, ()))
    (fun i hi => by
      have ha : p_spec_l03Axes R k a b f (l.getD i (0, 0)).fst (l.getD i (0, 0)).snd = axOf k a b f l i := rfl
      simp only [st_spec_WorstScales_0]
      rw [wrap_succ (by omega), idx_ok hi, idx_in hi, (axes_eq _ _ _ _ _ _).2.2, Int.toNat_natCast, ha, lsUp, moUp]
      unfold lessW moreW
      generalize axOf k a b f l i = A
      generalize lsUp k a b f l i = B
      generalize moUp k a b f l i = C
      generalize ((i : Int) == 0) = t0
      generalize R.cmp .lss .f32 A.2.1 B = t1
      generalize R.cmp .gtr .f32 A.1 C = t2
      cases A.2.2.2 <;> cases t0 <;> cases t1 <;> cases t2 <;> rfl)
    (by
      simp only [st_spec_WorstScales_0]
      rw [idx_out]
      rfl)

/-- the least and the greatest of all are those of the lesser and of the greater axes -/
theorem worst_same {k : Int} {a b f : Nat} {l : List (Nat × Nat)} (hok : ∀ i, i < l.length → (axOf k a b f l i).2.2.2 = true) : ∀ i, i < l.length →
    (mnUp (axsUp k a b f l l.length) (2 * i + 1) = lsUp k a b f l (i + 1) ∧ Pc (lsUp k a b f l (i + 1))) ∧ (mxUp (axsUp k a b f l l.length) (2 * i + 1) = moUp k a b f l (i + 1) ∧ Pc (moUp k a b f l (i + 1)))
  | 0, hi => by
    have hA : AxOk (axOf k a b f l 0).1 (axOf k a b f l 0).2.1 := axes_pos (hok 0 hi)
    obtain ⟨x1, y1, hle, x2, y2⟩ := hA
    obtain ⟨g1, g2⟩ := axsUp_get k a b f l l.length 0 hi
    have e1 : lsUp k a b f l (0 + 1) = (axOf k a b f l 0).2.1 := rfl
    have e2 : moUp k a b f l (0 + 1) = (axOf k a b f l 0).1 := rfl
    have e3 : mnUp (axsUp k a b f l l.length) (2 * 0 + 1) = p_minW R .f32 (axOf k a b f l 0).1 (axOf k a b f l 0).2.1 := by
      show p_minW R .f32 ((axsUp k a b f l l.length).getD (2 * 0) 0) ((axsUp k a b f l l.length).getD (2 * 0 + 1) 0) = _
      rw [g1, g2]
    have e4 : mxUp (axsUp k a b f l l.length) (2 * 0 + 1) = p_maxW R .f32 (axOf k a b f l 0).1 (axOf k a b f l 0).2.1 := by
      show p_maxW R .f32 ((axsUp k a b f l l.length).getD (2 * 0) 0) ((axsUp k a b f l l.length).getD (2 * 0 + 1) 0) = _
      rw [g1, g2]
    rw [e1, e2, e3, e4, minW_eq ⟨x1, x2⟩ ⟨y1, y2⟩, maxW_eq ⟨x1, x2⟩ ⟨y1, y2⟩, less_one ⟨x1, x2⟩ ⟨y1, y2⟩ hle, more_one ⟨x1, x2⟩ ⟨y1, y2⟩ hle]
    exact ⟨⟨rfl, y1, y2⟩, ⟨rfl, x1, x2⟩⟩
  | i + 1, hi => by
    obtain ⟨⟨m1, m2⟩, m3, m4⟩ := worst_same hok i (by omega)
    have hA : AxOk (axOf k a b f l (i + 1)).1 (axOf k a b f l (i + 1)).2.1 := axes_pos (hok (i + 1) hi)
    obtain ⟨x1, y1, hle, x2, y2⟩ := hA
    obtain ⟨g1, g2⟩ := axsUp_get k a b f l l.length (i + 1) hi
    have hne : (((i + 1 : Nat) : Int) == 0) = false := by
      refine Bool.eq_false_iff.2 fun h => ?_
      have := eq_of_beq h
      omega
    have e1 : lsUp k a b f l (i + 1 + 1) = lessW (lsUp k a b f l (i + 1)) (axOf k a b f l (i + 1)).2.1 := by rw [lsUp, hne]; rfl
    have e2 : moUp k a b f l (i + 1 + 1) = moreW (moUp k a b f l (i + 1)) (axOf k a b f l (i + 1)).1 := by rw [moUp, hne]; rfl
    have e3 : mnUp (axsUp k a b f l l.length) (2 * (i + 1) + 1) = p_minW R .f32 (p_minW R .f32 (mnUp (axsUp k a b f l l.length) (2 * i + 1)) (axOf k a b f l (i + 1)).1) (axOf k a b f l (i + 1)).2.1 := by
      rw [← g1, ← g2]
      have e : 2 * (i + 1) = 2 * i + 1 + 1 := by omega
      rw [e]; rfl
    have e4 : mxUp (axsUp k a b f l l.length) (2 * (i + 1) + 1) = p_maxW R .f32 (p_maxW R .f32 (mxUp (axsUp k a b f l l.length) (2 * i + 1)) (axOf k a b f l (i + 1)).1) (axOf k a b f l (i + 1)).2.1 := by
      rw [← g1, ← g2]
      have e : 2 * (i + 1) = 2 * i + 1 + 1 := by omega
      rw [e]; rfl
    have X : Pc (axOf k a b f l (i + 1)).1 := ⟨x1, x2⟩
    have Y : Pc (axOf k a b f l (i + 1)).2.1 := ⟨y1, y2⟩
    rw [e1, e2, e3, e4, m1, m3, minW_eq m2 X, minW_eq (pc_less m2 X) Y, less_two m2 X Y hle, maxW_eq m4 X, maxW_eq (pc_more m4 X) Y, more_two m4 X Y hle]
    exact ⟨⟨rfl, pc_less m2 Y⟩, ⟨rfl, pc_more m4 X⟩⟩

theorem worst_eq (k : Int) (a b f : Nat) (l : List (Nat × Nat)) (hl : l.length ≤ 1048576) : p_impl_WorstScales R k a b f l = p_spec_WorstScales R k a b f l ∧ r_impl_WorstScales R k a b f l = true ∧ r_spec_WorstScales R k a b f l = true := by
  have hdec : decide (l.length < 4611686018427387904) = true := decide_eq_true (by omega)
  cases hv : ((l.all fun x => p_impl_ValidPlace R x.fst x.snd) && (decide (1 ≤ l.length) && decide (l.length ≤ 64)))
  · have e0 : c0_impl_WorstScales R k a b f l = ([], false) := by unfold c0_impl_WorstScales p_impl_axes; rw [hv]; rfl
    have er : r_impl_axes R k a b f l = true := by unfold r_impl_axes; rw [hv, hdec]; rfl
    unfold p_impl_WorstScales p_spec_WorstScales r_impl_WorstScales r_spec_WorstScales
    rw [e0, er, hv, hdec]
    cases p_spec_l03Is R k a b f <;> simp only [Bool.not_false, Bool.not_true, cond_true, cond_false, Bool.and_self, and_self]
  have hv2 := hv
  simp only [Bool.and_eq_true, decide_eq_true_eq] at hv2
  obtain ⟨er, hax⟩ := impl_axes k a b f l hv2.2.2 hv2.2.1 hv2.1
  have hspec := spec_worst k a b f l hv2.2.2
  have rS : r_spec_WorstScales R k a b f l = true := by
    unfold r_spec_WorstScales
    rw [hv, hdec]
    rcases hspec with ⟨_, e⟩ | ⟨_, _, _, e⟩ <;> rw [e] <;> cases p_spec_l03Is R k a b f <;> rfl
  rcases hax with ⟨t1, t2⟩ | ⟨j, t1, t2, t3⟩
  · have hm : p_spec_l03Is R k a b f = true := by
      cases hm : p_spec_l03Is R k a b f
      · have := t1 0 (by omega)
        unfold axOf at this
        rw [axes_invalid _ _ hm] at this; cases this
      · rfl
    have e0 : c0_impl_WorstScales R k a b f l = (axsUp k a b f l l.length, true) := t2
    have hlen := axsUp_length k a b f l l.length
    obtain ⟨n1, n2⟩ := slices_min (axsUp k a b f l l.length) (by omega) (by omega)
    obtain ⟨x1, x2⟩ := slices_max (axsUp k a b f l l.length) (by omega) (by omega)
    obtain ⟨⟨w1, _⟩, w2, _⟩ := worst_same t1 (l.length - 1) (by omega)
    have hi : (axsUp k a b f l l.length).length - 1 = 2 * (l.length - 1) + 1 := by omega
    rw [hi, w1] at n1
    rw [hi, w2] at x1
    rw [sub_one_succ hv2.2.1] at n1 x1
    rcases hspec with ⟨_, e⟩ | ⟨j, j1, j2, _⟩
    · unfold p_impl_WorstScales p_spec_WorstScales r_impl_WorstScales
      rw [er, e0, hm, hv, e, n1, n2, x1, x2]
      refine ⟨?_, ?_, rS⟩
      · simp only [Bool.not_true, cond_false, Option.getD_some, isL, getR]
      · simp only [Bool.not_true, cond_false, beq_self, Bool.and_self]
    · exfalso; rw [t1 j j1] at j2; cases j2
  · have e0 : c0_impl_WorstScales R k a b f l = ([], false) := t3
    rcases hspec with ⟨hall, _⟩ | ⟨_, _, _, e⟩
    · exfalso; rw [hall j t1] at t2; cases t2
    · unfold p_impl_WorstScales p_spec_WorstScales r_impl_WorstScales
      rw [er, e0, hv, e]
      refine ⟨?_, ?_, rS⟩
      · cases p_spec_l03Is R k a b f <;> simp only [Bool.not_true, Bool.not_false, cond_false, cond_true, Option.getD_some, isL, getL]
      · simp only [Bool.not_false, cond_true, Bool.and_self]

theorem law_WorstScales (k : Int) (a b f : Nat) (l : List (Nat × Nat)) (h : l.length ≤ 9223372036854775807) : r_laws_FnExactWorstScales R k a b f l = true ∧ p_laws_FnExactWorstScales R k a b f l = true := by
  unfold r_laws_FnExactWorstScales p_laws_FnExactWorstScales
  have e0 : c0_laws_FnExactWorstScales R k a b f l = p_laws_szPlaceS R l 1048576 := rfl
  cases hs : decide (p_laws_szPlaceS R l 1048576 < 0)
  · have hl := sz_small h hs
    obtain ⟨q1, q2, q3⟩ := worst_eq k a b f l hl
    have e1 : c1_laws_FnExactWorstScales R k a b f l = (k, a, b, f) := rfl
    have e2 : c2_laws_FnExactWorstScales R k a b f l = p_spec_WorstScales R k a b f l := q1
    have e3 : c3_laws_FnExactWorstScales R k a b f l = p_spec_WorstScales R k a b f l := rfl
    simp only [e0, hs, e1, e2, e3, q2, q3, sameFloat_refl, eqPlaceS_refl, beq_self, bne_self_eq_false, decide_eq_true (show l.length ≤ 1073741824 by omega), decide_eq_true (show l.length < 4611686018427387904 by omega), Bool.not_true, cond_false, Bool.and_self, and_self]
  · rw [e0, hs]; exact ⟨rfl, rfl⟩
end Go.Dv
