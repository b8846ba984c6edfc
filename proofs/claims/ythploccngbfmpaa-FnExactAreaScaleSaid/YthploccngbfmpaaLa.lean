/- Mixed points, steps and the scales of areas: both texts are the same. -/
import Derived.Test.YthploccngbfmpaaLv
namespace Go.Dv
open Go.Cv
open Ieee

/-- between two words lie numbers alone -/
theorem between_nm {a c d : Nat} (hc : Nm .f32 c) (hd : Nm .f32 d) (h1 : R.cmp .geq .f32 a c = true) (h2 : R.cmp .leq .f32 a d = true) : Nm .f32 a ∧ fv .f32 c ≤ fv .f32 a ∧ fv .f32 a ≤ fv .f32 d := by
  have hN : Nm .f32 a := by
    rcases nm_dec .f32 a with h | h
    · exact h
    · exfalso
      obtain ⟨s', m', e', hrc⟩ := hc
      obtain ⟨s2, m2, e2, hrd⟩ := hd
      rcases not_nm h with h | ⟨s, h⟩
      · obtain ⟨s, t, hr⟩ := nan_word h
        have h1 : fge .f32 a c = true := h1
        unfold fge Format.order at h1
        rw [hr] at h1; cases h1
      · cases s
        · have h2 : fle .f32 a d = true := h2
          unfold fle Format.order at h2
          rw [h, hrd] at h2; cases h2
        · have h1 : fge .f32 a c = true := h1
          unfold fge Format.order at h1
          rw [h, hrc] at h1; cases h1
  refine ⟨hN, ?_, ?_⟩
  · rw [geq_nm hN hc] at h1; exact of_decide_eq_true h1
  · rw [leq_nm hN hd] at h2; exact of_decide_eq_true h2

theorem below_nm {a c d : Nat} (hc : Nm .f32 c) (hd : Nm .f32 d) (h1 : R.cmp .geq .f32 a c = true) (h2 : R.cmp .lss .f32 a d = true) : Nm .f32 a ∧ fv .f32 c ≤ fv .f32 a ∧ fv .f32 a < fv .f32 d := by
  have hN : Nm .f32 a := by
    rcases nm_dec .f32 a with h | h
    · exact h
    · exfalso
      obtain ⟨s', m', e', hrc⟩ := hc
      obtain ⟨s2, m2, e2, hrd⟩ := hd
      rcases not_nm h with h | ⟨s, h⟩
      · obtain ⟨s, t, hr⟩ := nan_word h
        have h1 : fge .f32 a c = true := h1
        unfold fge Format.order at h1
        rw [hr] at h1; cases h1
      · cases s
        · have h2 : flt .f32 a d = true := h2
          unfold flt Format.order at h2
          rw [h, hrd] at h2; cases h2
        · have h1 : fge .f32 a c = true := h1
          unfold fge Format.order at h1
          rw [h, hrc] at h1; cases h1
  refine ⟨hN, ?_, ?_⟩
  · rw [geq_nm hN hc] at h1; exact of_decide_eq_true h1
  · rw [lss_nm hN hd] at h2; exact of_decide_eq_true h2

theorem nm_c1 : Nm .f32 3195388559 := ⟨_, _, _, rfl⟩
theorem nm_c2 : Nm .f32 1047904911 := ⟨_, _, _, rfl⟩
theorem fv_c1 : -(31 / 128) ≤ fv .f32 3195388559 := by decide +kernel
theorem fv_c2 : fv .f32 1047904911 ≤ 31 / 128 := by decide +kernel
theorem in24_of {x : Nat} (h : p_impl_inside R x 3195388559 1047904911 = true) : In24 x := by
  unfold p_impl_inside at h
  cases h1 : R.cmp .geq .f32 x 3195388559
  · rw [h1] at h; cases h
  · rw [h1] at h
    obtain ⟨a, b, c⟩ := between_nm nm_c1 nm_c2 h1 h
    have := fv_c1; have := fv_c2
    exact ⟨a, by grind, by grind⟩

theorem nm_s32 : Nm .f32 981467136 := ⟨_, _, _, rfl⟩
theorem fv_s32 : fv .f32 981467136 = 1 / 1024 := by decide +kernel
theorem nm_nq32 : Nm .f32 3196059648 := ⟨_, _, _, rfl⟩
theorem fv_nq32 : fv .f32 3196059648 = -(1 / 4) := by decide +kernel
theorem p2_m2 : p2 (-2) = 1 / 4 := by decide +kernel

theorem place_of {n e : Nat} (hn : Nm .f32 n) (h1 : -(1 / 4) ≤ fv .f32 n) (h2 : fv .f32 n ≤ 1 / 4) (he : InH e) : p_impl_ValidPlace R n e = true := by
  obtain ⟨e1, e2, e3⟩ := he
  unfold p_impl_ValidPlace p_impl_inside
  rw [geq_nm hn nm_nq32, leq_nm hn nm_q32, geq_nm e1 nm_nh32, lss_nm e1 nm_h32, fv_nq32, fv_q32, fv_nh32, fv_h32, decide_eq_true h1, decide_eq_true h2, decide_eq_true e2, decide_eq_true e3]
  rfl
theorem place_in {n e : Nat} (h : p_impl_ValidPlace R n e = true) : Nm .f32 n ∧ -(1 / 4) ≤ fv .f32 n ∧ fv .f32 n ≤ 1 / 4 ∧ InH e := by
  unfold p_impl_ValidPlace p_impl_inside at h
  cases h1 : R.cmp .geq .f32 n 3196059648
  · rw [h1] at h; cases h
  cases h2 : R.cmp .leq .f32 n 1048576000
  · rw [h1, h2] at h; cases h
  cases h3 : R.cmp .geq .f32 e 3204448256
  · rw [h1, h2, h3] at h; cases h
  cases h4 : R.cmp .lss .f32 e 1056964608
  · rw [h1, h2, h3, h4] at h; cases h
  obtain ⟨a1, a2, a3⟩ := between_nm nm_nq32 nm_q32 h1 h2
  obtain ⟨b1, b2, b3⟩ := below_nm nm_nh32 nm_h32 h3 h4
  rw [fv_nq32] at a2; rw [fv_q32] at a3; rw [fv_nh32] at b2; rw [fv_h32] at b3
  exact ⟨a1, a2, a3, b1, b2, b3⟩

/-- the four places beside a place are places -/
theorem beside {n e : Nat} (h : p_impl_ValidPlace R n e = true) (hn : In24 n) :
    p_impl_ValidPlace R n (p_spec_l02Wrap R (R.bin .add .f32 e 981467136)) = true ∧ p_impl_ValidPlace R n (p_spec_l02Wrap R (R.bin .sub .f32 e 981467136)) = true ∧
    p_impl_ValidPlace R (R.bin .add .f32 n 981467136) e = true ∧ p_impl_ValidPlace R (R.bin .sub .f32 n 981467136) e = true := by
  obtain ⟨a1, a2, a3, hE⟩ := place_in h
  obtain ⟨_, n1, n2⟩ := hn
  obtain ⟨e1, e2, e3⟩ := hE
  have p0 := p2_zero
  refine ⟨place_of a1 a2 a3 ?_, place_of a1 a2 a3 ?_, ?_, ?_⟩
  · have hr := rd_add e1 nm_s32
    rw [fv_s32] at hr
    obtain ⟨k1, k2, k3⟩ := hr.le 0 (by decide) (by decide) (by rw [p0]; grind) (by rw [p0]; grind)
    rw [p0] at k2 k3
    exact wrap_in k1 (by grind) k2
  · have hr := rd_sub e1 nm_s32
    rw [fv_s32] at hr
    obtain ⟨k1, k2, k3⟩ := hr.le 0 (by decide) (by decide) (by rw [p0]; grind) (by rw [p0]; grind)
    rw [p0] at k2 k3
    exact wrap_in k1 (by grind) k2
  · have hr := rd_add a1 nm_s32
    rw [fv_s32] at hr
    obtain ⟨k1, k2, k3⟩ := hr.le (-2) (by decide) (by decide) (by rw [p2_m2]; grind) (by rw [p2_m2]; grind)
    rw [p2_m2] at k2 k3
    exact place_of k1 (by grind) k2 ⟨e1, e2, e3⟩
  · have hr := rd_sub a1 nm_s32
    rw [fv_s32] at hr
    obtain ⟨k1, k2, k3⟩ := hr.le (-2) (by decide) (by decide) (by rw [p2_m2]; grind) (by rw [p2_m2]; grind)
    rw [p2_m2] at k2 k3
    exact place_of k1 (by grind) k2 ⟨e1, e2, e3⟩

/-! ### mixtures -/
theorem share_same (s : Nat) : p_impl_inside R s 0 1065353216 = p_spec_l02Share R s := rfl
theorem mixed_eq (a b c d s : Nat) : p_impl_mixed R a b c d s = (R.bin .add .f32 a (R.bin .mul .f32 s (R.bin .sub .f32 c a)), R.bin .add .f32 b (R.bin .mul .f32 s (R.bin .sub .f32 d b))) := by
  unfold p_impl_mixed c2_impl_mixed c1_impl_mixed c0_impl_mixed p_impl_plus p_impl_ScaleComplex p_impl_less
  simp only
  rw [mul_comm' .f32 (R.bin .sub .f32 c a) s, mul_comm' .f32 (R.bin .sub .f32 d b) s]

theorem pointOf_no {k : Int} {a b f : Nat} (c d : Nat) (h : p_spec_l03Is R k a b f = false) : p_spec_PointOf R k a b f c d = (0, 0, false) := by unfold p_spec_PointOf; rw [h]; rfl
theorem pointOf_nop (k : Int) (a b f : Nat) {c d : Nat} (h : p_spec_l02Is R c d = false) : p_spec_PointOf R k a b f c d = (0, 0, false) := by
  unfold p_spec_PointOf; rw [h]; cases p_spec_l03Is R k a b f <;> rfl
theorem pointOf_yes {k : Int} {a b f c d : Nat} (h : p_spec_l03Is R k a b f = true) (h2 : p_spec_l02Is R c d = true) : p_spec_PointOf R k a b f c d = p_spec_l03Point R k a b f c d := by unfold p_spec_PointOf; rw [h, h2]; rfl

theorem mix_eq (k : Int) (a b f : Nat) (k' : Int) (a' b' f' s c d : Nat) : p_impl_MixPoint R k a b f k' a' b' f' s c d = p_spec_MixPoint R k a b f k' a' b' f' s c d := by
  have key : p_impl_MixPoint R k a b f k' a' b' f' s c d = bif (c0_impl_MixPoint R k a b f k' a' b' f' s c d).snd.snd then (bif (c1_impl_MixPoint R k a b f k' a' b' f' s c d).snd.snd then c3_impl_MixPoint R k a b f k' a' b' f' s c d else (0, 0, false)) else (0, 0, false) := by
    unfold p_impl_MixPoint
    have e4 : c4_impl_MixPoint R k a b f k' a' b' f' s c d = (0, 0, false) := rfl
    simp only [e4, eta3]
  rw [key]
  unfold c3_impl_MixPoint c2_impl_MixPoint
  have e0 : c0_impl_MixPoint R k a b f k' a' b' f' s c d = p_spec_PointOf R k a b f c d := pointOf_eq k a b f c d
  have e1 : c1_impl_MixPoint R k a b f k' a' b' f' s c d = p_spec_PointOf R k' a' b' f' c d := pointOf_eq k' a' b' f' c d
  rw [e0, e1, share_same]
  unfold p_spec_MixPoint c2_spec_MixPoint c1_spec_MixPoint c0_spec_MixPoint
  cases h1 : p_spec_l03Is R k a b f
  · rw [pointOf_no c d h1]; simp only [Bool.not_false, cond_true, cond_false]
  cases h2 : p_spec_l03Is R k' a' b' f'
  · rw [pointOf_no c d h2]; simp only [Bool.not_false, Bool.not_true, cond_true, cond_false, Bool.cond_self]
  cases h4 : p_spec_l02Is R c d
  · rw [pointOf_nop k a b f h4]
    cases p_spec_l02Share R s <;> simp only [Bool.not_false, Bool.not_true, cond_true, cond_false]
  rw [pointOf_yes h1 h4, pointOf_yes h2 h4, mixed_eq]
  cases h3 : p_spec_l02Share R s
  · rw [point_false]
    simp only [Bool.not_false, Bool.not_true, cond_true, cond_false, Bool.cond_self]
  · rw [number3_eq]
    simp only [Bool.not_true, cond_false, eta3]
    cases (p_spec_l03Point R k a b f c d).snd.snd <;> cases (p_spec_l03Point R k' a' b' f' c d).snd.snd <;> rfl

theorem mix_ok (k : Int) (a b f : Nat) (k' : Int) (a' b' f' s c d : Nat) : r_impl_MixPoint R k a b f k' a' b' f' s c d = true ∧ r_spec_MixPoint R k a b f k' a' b' f' s c d = true := by
  unfold r_impl_MixPoint r_spec_MixPoint
  rw [(pointOf_ok _ _ _ _ _ _).1, (pointOf_ok _ _ _ _ _ _).1, point_spec_ok, point_spec_ok]
  cases p_spec_l03Is R k a b f <;> cases p_spec_l03Is R k' a' b' f' <;> cases p_spec_l02Share R s <;> cases p_spec_l02Is R c d <;> exact ⟨rfl, rfl⟩

theorem law_MixPoint (k : Int) (a b f : Nat) (k' : Int) (a' b' f' s c d : Nat) : r_laws_FnExactMixPoint R k a b f k' a' b' f' s c d = true ∧ p_laws_FnExactMixPoint R k a b f k' a' b' f' s c d = true := by
  unfold r_laws_FnExactMixPoint p_laws_FnExactMixPoint c3_laws_FnExactMixPoint c4_laws_FnExactMixPoint
  rw [mix_eq, (mix_ok _ _ _ _ _ _ _ _ _ _ _).1, (mix_ok _ _ _ _ _ _ _ _ _ _ _).2, sameComplex_refl, bne_self_eq_false]
  exact ⟨rfl, rfl⟩

/-! ### steps -/
theorem step_w : p_spec_l03Round R (R.bin .mul .f32 1073741824 981467136) = 1011421147 := by decide +kernel

/-- the steps of both texts: the same numbers; the reference looks whether they are finite -/
theorem steps_rel (k : Int) (a b f c d : Nat) : (p_impl_Map_steps R k a b f c d = (0, 0, 0, 0, false) ∧ p_spec_l03Steps R k a b f c d = (0, 0, 0, 0, false)) ∨
    (p_impl_ValidPlace R c d = true ∧ In24 c ∧ p_spec_l03Is R k a b f = true ∧ ∃ u0 u1 v0 v1, p_impl_Map_steps R k a b f c d = (u0, u1, v0, v1, true) ∧ p_spec_l03Steps R k a b f c d = (u0, u1, v0, v1, p_spec_l01CFinite R u0 u1 && p_spec_l01CFinite R v0 v1) ∧
      ∃ p q r s : Nat × Nat, p_spec_l03Point R k a b f c (p_spec_l02Wrap R (R.bin .add .f32 d 981467136)) = (p.1, p.2, true) ∧ p_spec_l03Point R k a b f c (p_spec_l02Wrap R (R.bin .sub .f32 d 981467136)) = (q.1, q.2, true) ∧
        p_spec_l03Point R k a b f (R.bin .add .f32 c 981467136) d = (r.1, r.2, true) ∧ p_spec_l03Point R k a b f (R.bin .sub .f32 c 981467136) d = (s.1, s.2, true) ∧
        (u0, u1) = p_spec_l03Over R (R.bin .sub .f32 p.1 q.1) (R.bin .sub .f32 p.2 q.2) (R.bin .mul .f32 1011421147 (p_spec_l02Cosine R c)) ∧
        (v0, v1) = p_spec_l03Over R (R.bin .sub .f32 r.1 s.1) (R.bin .sub .f32 r.2 s.2) 1011421147) := by
  unfold p_impl_Map_steps p_spec_l03Steps
  rw [map_eq]
  cases hm : p_spec_l03Is R k a b f
  · left; simp only [Bool.not_false, cond_true, and_self]
  cases hp : p_impl_ValidPlace R c d
  · have hp2 := hp
    rw [place_eq] at hp2
    left; simp only [hp2, Bool.not_false, Bool.not_true, cond_true, cond_false, and_self]
  have hp2 := hp
  rw [place_eq] at hp2
  cases hi : p_impl_inside R c 3195388559 1047904911
  · left
    unfold p_impl_inside at hi
    cases h1 : R.cmp .geq .f32 c 3195388559
    · simp only [hp2, Bool.not_false, Bool.not_true, cond_true, cond_false, and_self]
    · rw [h1] at hi
      have hi : R.cmp .leq .f32 c 1047904911 = false := hi
      simp only [hp2, hi, Bool.not_false, Bool.not_true, cond_true, cond_false, and_self]
  have h24 := in24_of hi
  have hi2 : R.cmp .geq .f32 c 3195388559 = true ∧ R.cmp .leq .f32 c 1047904911 = true := by
    unfold p_impl_inside at hi
    cases h1 : R.cmp .geq .f32 c 3195388559
    · rw [h1] at hi; cases hi
    · rw [h1] at hi; exact ⟨rfl, hi⟩
  obtain ⟨b1, b2, b3, b4⟩ := beside hp h24
  have vm := valid_mid hm
  have i4 : c4_impl_Map_steps R k a b f c d = c4_spec_l03Steps R k a b f c d := point_eq vm b1
  have i5 : c5_impl_Map_steps R k a b f c d = c5_spec_l03Steps R k a b f c d := point_eq vm b2
  have i6 : c6_impl_Map_steps R k a b f c d = c6_spec_l03Steps R k a b f c d := point_eq vm b3
  have i7 : c7_impl_Map_steps R k a b f c d = c7_spec_l03Steps R k a b f c d := point_eq vm b4
  have i9 : c9_impl_Map_steps R k a b f c d = c9_spec_l03Steps R k a b f c d := by
    unfold c9_impl_Map_steps c9_spec_l03Steps c8_impl_Map_steps c8_spec_l03Steps
    rw [i4, i5, cos_eq, step_w]; rfl
  have i11 : c11_impl_Map_steps R k a b f c d = c10_spec_l03Steps R k a b f c d := by
    unfold c11_impl_Map_steps c10_spec_l03Steps c10_impl_Map_steps c8_spec_l03Steps
    rw [i6, i7, step_w]; rfl
  rw [i4, i5, i6, i7, i9, i11]
  cases h4 : (c4_spec_l03Steps R k a b f c d).snd.snd
  · left; simp only [hp2, hi2.1, hi2.2, Bool.not_false, Bool.not_true, cond_true, cond_false, and_self]
  cases h5 : (c5_spec_l03Steps R k a b f c d).snd.snd
  · left; simp only [hp2, hi2.1, hi2.2, Bool.not_false, Bool.not_true, cond_true, cond_false, and_self]
  cases h6 : (c6_spec_l03Steps R k a b f c d).snd.snd
  · left; simp only [hp2, hi2.1, hi2.2, Bool.not_false, Bool.not_true, cond_true, cond_false, and_self]
  cases h7 : (c7_spec_l03Steps R k a b f c d).snd.snd
  · left; simp only [hp2, hi2.1, hi2.2, Bool.not_false, Bool.not_true, cond_true, cond_false, and_self]
  right
  refine ⟨rfl, h24, rfl, _, _, _, _, rfl, ?_, ((c4_spec_l03Steps R k a b f c d).fst, (c4_spec_l03Steps R k a b f c d).snd.fst), ((c5_spec_l03Steps R k a b f c d).fst, (c5_spec_l03Steps R k a b f c d).snd.fst), ((c6_spec_l03Steps R k a b f c d).fst, (c6_spec_l03Steps R k a b f c d).snd.fst), ((c7_spec_l03Steps R k a b f c d).fst, (c7_spec_l03Steps R k a b f c d).snd.fst), ?_, ?_, ?_, ?_, ?_, ?_⟩
  · simp only [hp2, hi2.1, hi2.2, Bool.not_true, cond_true, cond_false]
    cases p_spec_l01CFinite R (c9_spec_l03Steps R k a b f c d).fst (c9_spec_l03Steps R k a b f c d).snd <;> rfl
  · rw [← h4]; exact (eta3 _).symm
  · rw [← h5]; exact (eta3 _).symm
  · rw [← h6]; exact (eta3 _).symm
  · rw [← h7]; exact (eta3 _).symm
  · show c9_spec_l03Steps R k a b f c d = _
    unfold c9_spec_l03Steps c8_spec_l03Steps
    rw [step_w]
  · show c10_spec_l03Steps R k a b f c d = _
    unfold c10_spec_l03Steps c8_spec_l03Steps
    rw [step_w]

theorem steps_ok (k : Int) (a b f c d : Nat) : r_impl_Map_steps R k a b f c d = true ∧ r_spec_l03Steps R k a b f c d = true := by
  unfold r_impl_Map_steps r_spec_l03Steps
  simp only [point_impl_ok, point_spec_ok]
  cases p_impl_ValidMap R k a b f <;> cases p_impl_ValidPlace R c d <;> cases p_impl_inside R c 3195388559 1047904911 <;> cases p_spec_l03Is R k a b f <;> cases p_spec_l02Is R c d <;> cases R.cmp .geq .f32 c 3195388559 <;> cases R.cmp .leq .f32 c 1047904911 <;> exact ⟨rfl, rfl⟩

theorem cfin_not {x y : Nat} (h : p_spec_l01CFinite R x y = false) : ¬ Nm .f32 x ∨ ¬ Nm .f32 y := by
  unfold p_spec_l01CFinite at h
  cases hx : p_spec_l01Finite R x
  · exact .inl (fin_not hx)
  · rw [hx] at h; exact .inr (fin_not h)
theorem number_far {x : Nat} (h : ¬ Nm .f32 x) : p_spec_l02Number R x = (0, false) := number_no (by rw [fin_spec]; exact decide_eq_false h)

theorem area_scale_eq (k : Int) (a b f c d : Nat) : p_impl_AreaScale R k a b f c d = p_spec_AreaScale R k a b f c d := by
  have k1 : p_impl_AreaScale R k a b f c d = c1_impl_AreaScale R k a b f c d := rfl
  rw [k1]
  unfold c1_impl_AreaScale p_spec_AreaScale c1_spec_AreaScale c0_impl_AreaScale c0_spec_AreaScale
  rcases steps_rel k a b f c d with ⟨h1, h2⟩ | ⟨_, _, _, u0, u1, v0, v1, h1, h2, _⟩
  · rw [h1, h2]; rfl
  · rw [h1, h2]
    simp only
    rw [number_eq]
    cases hu : p_spec_l01CFinite R u0 u1
    · have : p_spec_l02Number R (R.bin .sub .f32 (R.bin .mul .f32 u0 v1) (R.bin .mul .f32 u1 v0)) = (0, false) := by
        rcases cfin_not hu with h | h
        · exact number_far (sub_far_l (share_far h))
        · exact number_far (sub_far_r (share_far h))
      rw [this]; rfl
    · cases hv : p_spec_l01CFinite R v0 v1
      · have : p_spec_l02Number R (R.bin .sub .f32 (R.bin .mul .f32 u0 v1) (R.bin .mul .f32 u1 v0)) = (0, false) := by
          rcases cfin_not hv with h | h
          · exact number_far (sub_far_r (mul_far_r h))
          · exact number_far (sub_far_l (mul_far_r h))
        rw [this]; rfl
      · rfl

theorem law_AreaScale (k : Int) (a b f c d : Nat) : r_laws_FnExactAreaScale R k a b f c d = true ∧ p_laws_FnExactAreaScale R k a b f c d = true := by
  unfold r_laws_FnExactAreaScale p_laws_FnExactAreaScale c2_laws_FnExactAreaScale c3_laws_FnExactAreaScale r_impl_AreaScale r_spec_AreaScale
  rw [area_scale_eq, (steps_ok _ _ _ _ _ _).1, (steps_ok _ _ _ _ _ _).2, sameFloat_refl, bne_self_eq_false]
  exact ⟨rfl, rfl⟩
end Go.Dv
