/- The logarithm's loops end. -/
import Derived.Test.YtmhmedbhngmmpaaNc
import Derived.Test.YtmhmedbhngmmpaaWg
import Derived.Test.YtmhmedbhngmmpaaLo
namespace Go.Dv
open Go.Cv

theorem log_W0 : W_impl_logarithm_0 R = W_spec_l01LogWide_0 R := rfl
theorem log_W1 : W_impl_logarithm_1 R = W_spec_l01LogWide_1 R := rfl

theorem nm_15 : Nm .f64 4609434218613702656 := ⟨_, _, _, rfl⟩
theorem fv_15 : fv .f64 4609434218613702656 = 3 / 2 := by decide +kernel
theorem nm_2 : Nm .f64 4611686018427387904 := ⟨_, _, _, rfl⟩
theorem fv_2 : fv .f64 4611686018427387904 = 2 := by decide +kernel

/-- halving comes to an end -/
theorem log_down (j : Int) (hj : j ≤ -1) : ∀ (k : Nat) (y : Nat) (e : Int) (v : Nat), k ≤ 200 → Nm .f64 y → 0 < fv .f64 y → p2 j ≤ fv .f64 y → fv .f64 y ≤ p2 k → -1000 ≤ e → e + k ≤ 1000 →
    ∃ y' e', W_spec_l01LogWide_0 R (y, e, v, ()) = some (y', e', v, ()) ∧ Nm .f64 y' ∧ 0 < fv .f64 y' ∧ fv .f64 y' < 3 / 2 ∧ p2 j ≤ fv .f64 y' ∧ e ≤ e' ∧ e' ≤ e + k := by
  intro k
  have hst : ∀ y e v, st_spec_l01LogWide_0 R y e v = brT (R.cmp .geq .f64 y 4609434218613702656) (some (.inl (R.bin .quo .f64 y 4611686018427387904, (IntKind.i64.wrap (e + 1), (v, ()))))) (some (.inr (y, (e, (v, ()))))) := fun _ _ _ => rfl
  induction k with
  | zero =>
    intro y e v _ hn h0 hlow h1 h2 h3
    have hp : p2 ((0 : Nat) : Int) = 1 := p2_zero
    rw [hp] at h1
    have hc : R.cmp .geq .f64 y 4609434218613702656 = false := by rw [geq_nm hn nm_15, fv_15]; exact decide_eq_false (by grind)
    refine ⟨y, e, runW_out ?_, hn, h0, by grind, hlow, Int.le_refl _, by omega⟩
    show st_spec_l01LogWide_0 R y e v = _
    rw [hst, hc]; rfl
  | succ k ih =>
    intro y e v hk hn h0 hlow h1 h2 h3
    cases hc : R.cmp .geq .f64 y 4609434218613702656
    · rw [geq_nm hn nm_15, fv_15] at hc
      have hc' := of_decide_eq_false hc
      refine ⟨y, e, runW_out ?_, hn, h0, by grind, hlow, Int.le_refl _, by omega⟩
      show st_spec_l01LogWide_0 R y e v = _
      rw [hst, geq_nm hn nm_15, fv_15, hc]; rfl
    · have hc2 := hc
      rw [geq_nm hn nm_15, fv_15] at hc2
      have hge := of_decide_eq_true hc2
      have hr := rd_quo hn nm_2 (by rw [fv_2]; decide)
      rw [fv_2] at hr
      have hp : p2 ((k + 1 : Nat) : Int) = p2 (k : Int) + p2 (k : Int) := p2_succ k
      obtain ⟨hN, hl, _⟩ := hr.le (k : Int) (by show (-1074 : Int) ≤ _; omega) (by show _ ≤ (1023 : Int); omega) (by grind) (by grind)
      have h12 : p2 (-1) = 1 / 2 := by decide +kernel
      have hg := hr.ge (-1) (by decide) hN (by rw [h12]; grind)
      rw [h12] at hg
      have hpos : 0 < fv .f64 (R.bin .quo .f64 y 4611686018427387904) := by
        grind
      have hmj := p2_mono hj
      obtain ⟨y', e', r1, r2, r3, r4, r7, r5, r6⟩ := ih (R.bin .quo .f64 y 4611686018427387904) (e + 1) v (by omega) hN hpos (by rw [h12] at hmj; grind) hl (by omega) (by omega)
      refine ⟨y', e', ?_, r2, r3, r4, r7, by omega, by omega⟩
      rw [← r1]
      refine runW_on ?_
      show st_spec_l01LogWide_0 R y e v = _
      rw [hst, hc, wrap_small (by omega) (by omega)]; rfl

theorem nm_75 : Nm .f64 4604930618986332160 := ⟨_, _, _, rfl⟩
theorem fv_75 : fv .f64 4604930618986332160 = 3 / 4 := by decide +kernel

/-- doubling comes to an end -/
theorem log_up : ∀ (k : Nat) (y : Nat) (e : Int) (v : Nat), k ≤ 200 → Nm .f64 y → p2 (-(k : Int)) ≤ fv .f64 y → fv .f64 y ≤ 2 → e ≤ 1000 → -1000 ≤ e - k →
    ∃ y' e', W_spec_l01LogWide_1 R (y, e, v, ()) = some (y', e', v, ()) ∧ Nm .f64 y' ∧ 3 / 4 ≤ fv .f64 y' ∧ fv .f64 y' ≤ 2 ∧ e' ≤ e ∧ e - k ≤ e' := by
  intro k
  have hst : ∀ y e v, st_spec_l01LogWide_1 R y e v = brT (R.cmp .lss .f64 y 4604930618986332160) (some (.inl (R.bin .mul .f64 y 4611686018427387904, (IntKind.i64.wrap (e - 1), (v, ()))))) (some (.inr (y, (e, (v, ()))))) := fun _ _ _ => rfl
  induction k with
  | zero =>
    intro y e v _ hn h0 h1 h2 h3
    have hp : p2 (-((0 : Nat) : Int)) = 1 := p2_zero
    rw [hp] at h0
    have hc : R.cmp .lss .f64 y 4604930618986332160 = false := by rw [lss_nm hn nm_75, fv_75]; exact decide_eq_false (by grind)
    refine ⟨y, e, runW_out ?_, hn, by grind, h1, Int.le_refl _, by omega⟩
    show st_spec_l01LogWide_1 R y e v = _
    rw [hst, hc]; rfl
  | succ k ih =>
    intro y e v hk hn h0 h1 h2 h3
    cases hc : R.cmp .lss .f64 y 4604930618986332160
    · have hc2 := hc
      rw [lss_nm hn nm_75, fv_75] at hc2
      have hc' := of_decide_eq_false hc2
      refine ⟨y, e, runW_out ?_, hn, by grind, h1, Int.le_refl _, by omega⟩
      show st_spec_l01LogWide_1 R y e v = _
      rw [hst, hc]; rfl
    · have hc2 := hc
      rw [lss_nm hn nm_75, fv_75] at hc2
      have hlt := of_decide_eq_true hc2
      have hr := rd_mul hn nm_2
      rw [fv_2] at hr
      have hp := p2_succ (-((k + 1 : Nat) : Int))
      have e1 : -((k + 1 : Nat) : Int) + 1 = -(k : Int) := by omega
      rw [e1] at hp
      have hpp := p2_pos (-((k + 1 : Nat) : Int))
      have h21 : p2 1 = 2 := by decide +kernel
      obtain ⟨hN, hl, _⟩ := hr.le 1 (by decide) (by decide) (by rw [h21]; grind) (by rw [h21]; grind)
      rw [h21] at hl
      have hg := hr.ge (-(k : Int)) (by show (-1074 : Int) ≤ _; omega) hN (by grind)
      obtain ⟨y', e', r1, r2, r3, r4, r5, r6⟩ := ih (R.bin .mul .f64 y 4611686018427387904) (e - 1) v (by omega) hN hg hl (by omega) (by omega)
      refine ⟨y', e', ?_, r2, r3, r4, by omega, by omega⟩
      rw [← r1]
      refine runW_on ?_
      show st_spec_l01LogWide_1 R y e v = _
      rw [hst, hc, wrap_small (by omega) (by omega)]; rfl

theorem log_runs {y : Nat} (hn : Nm .f64 y) (hlo : p2 (-150) ≤ fv .f64 y) (hhi : fv .f64 y ≤ p2 130) : ∃ y0 e0 y1 e1, W_spec_l01LogWide_0 R (y, 0, 0, ()) = some (y0, e0, 0, ()) ∧ W_spec_l01LogWide_1 R (y0, e0, 0, ()) = some (y1, e1, 0, ()) ∧
    Nm .f64 y1 ∧ 3 / 4 ≤ fv .f64 y1 ∧ fv .f64 y1 ≤ 2 ∧ -300 ≤ e1 ∧ e1 ≤ 300 := by
  have h0 := p2_pos (-150)
  obtain ⟨y0, e0, a1, a2, a3, a4, a5, a6, a7⟩ := log_down (-150) (by decide) 130 y 0 0 (by decide) hn (by grind) hlo hhi (by decide) (by decide)
  obtain ⟨y1, e1, b1, b2, b3, b4, b5, b6⟩ := log_up 150 y0 e0 0 (by decide) a2 a5 (by grind) (by omega) (by omega)
  exact ⟨y0, e0, y1, e1, a1, b1, b2, b3, b4, by omega, by omega⟩
end Go.Dv

