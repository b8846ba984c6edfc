/- An east of up to a thousand turns that is wrapped lies between -0.5 and 0.5; shares of a line. -/
import Derived.Test.YtbgpobiaaebbeaaGreatLv
set_option linter.unusedSimpArgs false
namespace Go.Dv
open Go.Cv
open Ieee

/-- a word that holds just such a number -/
theorem word_of {m : Nat} {e : Int} (hm : m ≤ 2 ^ 24) (he : -149 ≤ e) (ht : e + 1 ≤ 104) (s : Bool) : ∃ c, Nm .f32 c ∧ fv .f32 c = vd (.number s m e) := by
  obtain ⟨m2, e2, r2, v2⟩ := nearest_exact FloatKind.f32.format (exp3 .f32) s m e m e (by rw [B32]; exact hm) (by rw [least_eq]; exact he) (top_of (by rw [B32]; exact hm) ht) rfl
  refine ⟨_, ⟨_, _, _, r2⟩, ?_⟩
  unfold fv; rw [r2]
  cases s <;> simp only [vd_true, vd_false, v2]

/-- a number that a word holds is not changed -/
theorem rc_exact {v : Rat} {r : Nat} (h : Rc .f32 v r) (hr : Nm .f32 r) {m : Nat} {e : Int} {s : Bool} (hm : m ≤ 2 ^ 24) (he : -149 ≤ e) (ht : e + 1 ≤ 104) (hv : v = vd (.number s m e)) : fv .f32 r = v := by
  obtain ⟨c, hc, h1⟩ := word_of hm he ht s
  have h2 := h.le c hc hr (by rw [h1, hv]; exact Rat.le_refl)
  have h3 := h.ge c hc hr (by rw [h1, hv]; exact Rat.le_refl)
  rw [h1, ← hv] at h2 h3
  exact Rat.le_antisymm h2 h3

theorem p2_10 : p2 10 = 1024 := by decide +kernel
theorem p2_11 : p2 11 = 2048 := by decide +kernel

/-- the floor of a number of up to 1024 -/
theorem floor_val2 {r : Nat} (h : Nm .f32 r) (h1 : fv .f32 r ≤ 1024) (h2 : -1024 ≤ fv .f32 r) :
    Nm .f32 (R.nar (R.floor (R.wid r))) ∧ fv .f32 (R.nar (R.floor (R.wid r))) ≤ fv .f32 r ∧ -1024 ≤ fv .f32 (R.nar (R.floor (R.wid r))) ∧
    (∀ K : Nat, fv .f32 r < (K : Rat) + 1 → fv .f32 (R.nar (R.floor (R.wid r))) ≤ (K : Rat)) := by
  obtain ⟨hw, hv⟩ := wid_nm h
  obtain ⟨s, m1, e1, hx⟩ := hw
  have hn : isNan .f64 (R.wid r) = false := nm_not_nan ⟨_, _, _, hx⟩
  have hf : R.floor (R.wid r) = FloatKind.f64.format.nearest s (Toward.down.cut s (m1 <<< e1.toNat) (-e1).toNat) 0 := by
    show ffloor .down (R.wid r) = _
    unfold ffloor
    rw [hn, decode_eq, hx]
    rw [if_neg (by decide)]
    unfold FloatKind.encode Datum.integral
    simp only [Format.write]
  have hvr : fv .f32 r = vd (.number s m1 e1) := by rw [← hv]; unfold fv; rw [hx]
  have hg := mg_nonneg m1 e1
  have hm4 : mg m1 e1 ≤ mg 1024 0 := by
    rw [mg_nat0]
    have h4 : ((1024 : Nat) : Rat) = 1024 := rfl
    rw [h4]
    rw [hvr] at h1 h2
    cases s <;> simp only [vd_true, vd_false] at h1 h2 <;> grind
  have hK : Toward.down.cut s (m1 <<< e1.toNat) (-e1).toNat ≤ 1024 := cut_down_le _ _ _ _ ((units_le _ _ _).1 hm4)
  have lo : s = false → mg (Toward.down.cut s (m1 <<< e1.toNat) (-e1).toNat) 0 ≤ mg m1 e1 := by
    intro hs; subst hs
    rw [cut_down_pos]
    exact wholeOf_le m1 e1
  have hi : s = true → mg m1 e1 ≤ mg (Toward.down.cut s (m1 <<< e1.toNat) (-e1).toNat) 0 := by
    intro hs; subst hs
    rw [units_le]
    exact le_cut_down _ _
  generalize Toward.down.cut s (m1 <<< e1.toNat) (-e1).toNat = K at *
  have ht : mg K 0 < topOf FloatKind.f32.format := top_of (by rw [B32]; omega) (by decide)
  obtain ⟨m2, e2, r2, v2⟩ := nearest_exact FloatKind.f64.format (exp3 .f64) s K 0 K 0 (by rw [B64]; omega) (by decide) (top_of (by rw [B64]; omega) (by decide)) rfl
  rw [← hf] at r2
  obtain ⟨m3, e3, r3, v3⟩ := nar_exact (m := K) (e := 0) r2 (by omega) (by decide) ht v2
  have hval : fv .f32 (R.nar (R.floor (R.wid r))) = vd (.number s K 0) := by
    unfold fv; rw [r3]; cases s <;> simp only [vd_true, vd_false, v3]
  have hK0 : mg K 0 = (K : Rat) := mg_nat0 K
  have hKn : (0 : Rat) ≤ (K : Rat) := nat_nonneg K
  have hK4 : (K : Rat) ≤ 1024 := nat_mono hK
  refine ⟨⟨_, _, _, r3⟩, ?_, ?_, ?_⟩ <;> rw [hval] <;> try rw [hvr]
  · cases s
    · rw [vd_false, vd_false]; exact lo rfl
    · rw [vd_true, vd_true]; have := hi rfl; grind
  · cases s
    · rw [vd_false, hK0]; grind
    · rw [vd_true, hK0]; grind
  · intro J hlt
    have hJ := nat_nonneg J
    cases s
    · rw [vd_false] at hlt ⊢
      have a1 := lo rfl
      rw [hK0] at a1 ⊢
      have a2 : (K : Rat) < ((J + 1 : Nat) : Rat) := by
        rw [Rat.natCast_add]
        have : ((1 : Nat) : Rat) = 1 := rfl
        grind
      have a3 := Rat.natCast_lt_natCast.1 a2
      exact nat_mono (show K ≤ J by omega)
    · rw [vd_true, hK0]; grind

/-- a word's number below its power of two -/
theorem mg_lt_p2 {m : Nat} {e : Int} (hm : m < 2 ^ 24) : mg m e < p2 (24 + e) := by
  have h1 : mg (m + 1) e ≤ mg (2 ^ 24) e := mg_le.2 (by omega)
  have h2 : mg (2 ^ 24) e = p2 (24 + e) := by
    unfold mg; rw [p2_add, ← p2_nat]; rfl
  have h3 : mg (m + 1) e = mg m e + p2 e := by
    unfold mg
    rw [Rat.natCast_add, Rat.add_mul]
    have : ((1 : Nat) : Rat) = 1 := rfl
    rw [this]; grind
  have := p2_pos e
  rw [h2] at h1
  grind

theorem half_mg {e : Int} (hc : e ≤ -1) : mg (2 ^ (-1 - e).toNat) e = 1 / 2 := by
  have : mg (2 ^ (-1 - e).toNat) e = p2 (-1) := by
    unfold mg
    rw [← p2_nat, ← p2_add]
    congr 1; omega
  rw [this, p2_m1]

/-- far from nought: the sum with 0.5 is no less than its floor -/
theorem floor_le_sum {x : Nat} (hx : Nm .f32 x) (h0 : fv .f32 x < -(1 / 2) ∨ 1 / 2 ≤ fv .f32 x) (h1 : -1000 ≤ fv .f32 x) (h2 : fv .f32 x ≤ 1000) :
    fv .f32 (R.nar (R.floor (R.wid (R.bin .add .f32 x 1056964608)))) ≤ fv .f32 x + 1 / 2 := by
  have ha := rd_add hx nm_h32
  have hac := rc_add hx nm_h32
  rw [fv_h32] at ha hac
  obtain ⟨hNr, hb1, hb2⟩ := ha.le 10 (by decide) (by decide) (by rw [p2_10]; grind) (by rw [p2_10]; grind)
  rw [p2_10] at hb1 hb2
  obtain ⟨f1, f2, f3, f4⟩ := floor_val2 hNr hb1 (by grind)
  have fin : fv .f32 (R.bin .add .f32 x 1056964608) = fv .f32 x + 1 / 2 → fv .f32 (R.nar (R.floor (R.wid (R.bin .add .f32 x 1056964608)))) ≤ fv .f32 x + 1 / 2 := fun h => by rw [← h]; exact f2
  obtain ⟨s, m, e, hr⟩ := hx
  obtain ⟨b1, b2, _⟩ := read32_e x hr
  have hg := mg_nonneg m e
  have hlt := mg_lt_p2 (e := e) b1
  have hvx : fv .f32 x = vd (.number s m e) := by unfold fv; rw [hr]
  have hhalf : 1 / 2 ≤ mg m e := by
    rw [hvx] at h0
    cases s <;> simp only [vd_true, vd_false] at h0 <;> grind
  have h1000 : mg m e ≤ 1000 := by
    rw [hvx] at h1 h2
    cases s <;> simp only [vd_true, vd_false] at h1 h2 <;> grind
  have he24 : -24 ≤ e := by
    refine Classical.byContradiction fun hc => ?_
    have h5 : p2 (24 + e) ≤ p2 (-1) := p2_mono (by omega)
    rw [p2_m1] at h5
    grind
  by_cases he : 0 ≤ e
  · -- whole numbers
    have hM : mg m e = mg (m * 2 ^ e.toNat) 0 := by rw [mg_shift he, Int.sub_zero]
    rw [mg_nat0] at hM
    generalize m * 2 ^ e.toNat = M at hM
    have hM1 : (M : Rat) ≤ ((1000 : Nat) : Rat) := by rw [← hM]; exact h1000
    have hM1 := Rat.natCast_le_natCast.1 hM1
    have hM2 : 1 ≤ M := by
      rcases Nat.eq_zero_or_pos M with h | h
      · subst h; rw [hM] at hhalf
        have : ((0 : Nat) : Rat) = 0 := rfl
        rw [this] at hhalf; exfalso; grind
      · exact h
    have e2 : ∀ n : Nat, mg n (-1) = (n : Rat) / 2 := fun n => by unfold mg; rw [p2_m1]; grind
    cases s
    · refine fin (rc_exact hac hNr (m := 2 * M + 1) (e := -1) (s := false) (by omega) (by decide) (by decide) ?_)
      rw [hvx, vd_false, vd_false, hM, e2, Rat.natCast_add, Rat.natCast_mul]
      have : ((1 : Nat) : Rat) = 1 := rfl
      have h22 : ((2 : Nat) : Rat) = 2 := rfl
      rw [this, h22]; grind
    · refine fin (rc_exact hac hNr (m := 2 * M - 1) (e := -1) (s := true) (by omega) (by decide) (by decide) ?_)
      have e3 : ((2 * M - 1 : Nat) : Rat) + 1 = 2 * (M : Rat) := by
        have : ((1 : Nat) : Rat) = 1 := rfl
        have h22 : ((2 : Nat) : Rat) = 2 := rfl
        rw [← this, ← Rat.natCast_add, Nat.sub_add_cancel (by omega), Rat.natCast_mul, h22]
      rw [hvx, vd_true, vd_true, hM, e2]
      grind
  · have hc : e ≤ -1 := by omega
    have hh := half_mg hc
    cases s
    · rw [vd_false] at hvx
      by_cases hfit : m + 2 ^ (-1 - e).toNat ≤ 2 ^ 24
      · refine fin (rc_exact hac hNr (m := m + 2 ^ (-1 - e).toNat) (e := e) (s := false) hfit b2 (by omega) ?_)
        rw [hvx, vd_false, ← hh]
        unfold mg
        rw [Rat.natCast_add, Rat.add_mul]
      · -- beyond its power of two
        have hP : p2 (24 + e) = ((2 ^ (24 + e).toNat : Nat) : Rat) := by
          rw [← p2_nat]; congr 1; omega
        have hgt : p2 (24 + e) < mg m e + 1 / 2 := by
          have h5 : mg (2 ^ 24 + 1) e ≤ mg (m + 2 ^ (-1 - e).toNat) e := mg_le.2 (by omega)
          have h6 : mg (m + 2 ^ (-1 - e).toNat) e = mg m e + 1 / 2 := by rw [← hh]; unfold mg; rw [Rat.natCast_add, Rat.add_mul]
          have h7 : mg (2 ^ 24 + 1) e = p2 (24 + e) + p2 e := by
            unfold mg
            rw [Rat.natCast_add, Rat.add_mul]
            have : ((1 : Nat) : Rat) = 1 := rfl
            have h8 : ((2 ^ 24 : Nat) : Rat) * p2 e = p2 (24 + e) := by rw [p2_add, ← p2_nat]; rfl
            rw [this, h8]; grind
          have := p2_pos e
          rw [h7, h6] at h5; grind
        generalize hQ : 2 ^ (24 + e).toNat = Q at hP
        have hQs : Q ≤ 1000 := by
          have h5 : ((Q : Nat) : Rat) < ((1001 : Nat) : Rat) := by
            have : ((1001 : Nat) : Rat) = 1001 := rfl
            rw [← hP, this]; grind
          have := Rat.natCast_lt_natCast.1 h5
          omega
        obtain ⟨c, hc1, hc2⟩ := word_of (m := 2 * Q + 1) (e := -1) (by omega) (by decide) (by decide) false
        have e2 : mg (2 * Q + 1) (-1) = (Q : Rat) + 1 / 2 := by
          unfold mg; rw [p2_m1, Rat.natCast_add, Rat.natCast_mul]
          have : ((1 : Nat) : Rat) = 1 := rfl
          have h22 : ((2 : Nat) : Rat) = 2 := rfl
          rw [this, h22]; grind
        rw [vd_false, e2] at hc2
        have hle := hac.le c hc1 hNr (by rw [hc2, hvx, ← hP]; grind)
        rw [hc2] at hle
        have := f4 Q (by grind)
        rw [hvx]
        grind
    · rw [vd_true] at hvx
      have hle : 2 ^ (-1 - e).toNat ≤ m := by
        have h5 : mg (2 ^ (-1 - e).toNat) e ≤ mg m e := by rw [hh]; exact hhalf
        exact mg_le.1 h5
      refine fin (rc_exact hac hNr (m := m - 2 ^ (-1 - e).toNat) (e := e) (s := true) (Nat.le_trans (Nat.sub_le _ _) (Nat.le_of_lt b1)) b2 (by omega) ?_)
      rw [hvx, vd_true]
      have h5 : mg m e = mg (m - 2 ^ (-1 - e).toNat) e + mg (2 ^ (-1 - e).toNat) e := by
        unfold mg
        rw [← Rat.add_mul, ← Rat.natCast_add, Nat.sub_add_cancel hle]
      rw [hh] at h5
      grind

theorem wrap_in2 {x : Nat} (hx : Nm .f32 x) (h1 : -1000 ≤ fv .f32 x) (h2 : fv .f32 x ≤ 1000) : InH (p_spec_l02Wrap R x) := by
  by_cases hs : -1 ≤ fv .f32 x ∧ fv .f32 x ≤ 1
  · exact wrap_in hx hs.1 hs.2
  have hd := floor_le_sum hx (by
    by_cases c : fv .f32 x < -(1 / 2)
    · exact .inl c
    · refine .inr ?_
      have c1 : -1 ≤ fv .f32 x := by grind
      have c2 : ¬ fv .f32 x ≤ 1 := fun h => hs ⟨c1, h⟩
      grind) h1 h2
  have ha := rd_add hx nm_h32
  rw [fv_h32] at ha
  obtain ⟨hNr, hb1, hb2⟩ := ha.le 10 (by decide) (by decide) (by rw [p2_10]; grind) (by rw [p2_10]; grind)
  rw [p2_10] at hb1 hb2
  obtain ⟨f1, f2, f3, _⟩ := floor_val2 hNr hb1 (by grind)
  unfold p_spec_l02Wrap p_math_Floor
  generalize R.nar (R.floor (R.wid (R.bin .add .f32 x 1056964608))) = n at *
  have hs := rd_sub hx f1
  have hsc := rc_sub hx f1
  obtain ⟨hNs, _, _⟩ := hs.le 11 (by decide) (by decide) (by rw [p2_11]; grind) (by rw [p2_11]; grind)
  have g1 := hsc.ge _ nm_nh32 hNs (by rw [fv_nh32]; grind)
  rw [fv_nh32] at g1
  rw [geq_nm hNs nm_h32, fv_h32]
  by_cases c : 1 / 2 ≤ fv .f32 (R.bin .sub .f32 x n)
  · rw [decide_eq_true c, cond_true]
    exact ⟨nm_nh32, by rw [fv_nh32]; exact Rat.le_refl, by rw [fv_nh32]; decide +kernel⟩
  · rw [decide_eq_false c, cond_false]
    exact ⟨hNs, g1, by grind⟩
end Go.Dv
