/- Words between words; what a place is. -/
import Derived.Test.YtbgpobiaaebbeaaDoorGz

set_option linter.unusedSimpArgs false
namespace Go.Dv
open Go.Cv
open Ieee

theorem nan_word {a : Nat} (h : isNan .f32 a = true) : ∃ s t, FloatKind.f32.format.read a = .nan s t := by
  unfold isNan at h
  cases hr : FloatKind.f32.format.read a with
  | nan s t => exact ⟨s, t, rfl⟩
  | number s m e => rw [hr] at h; cases h
  | infinity s => rw [hr] at h; cases h
/-- between two words lie numbers alone -/
theorem between_nm {a c d : Nat} (hc : Nm .f32 c) (hd : Nm .f32 d) (h1 : R.cmp .geq .f32 a c = true) (h2 : R.cmp .leq .f32 a d = true) : Nm .f32 a ∧ fv .f32 c ≤ fv .f32 a ∧ fv .f32 a ≤ fv .f32 d := by
  have hN : Nm .f32 a := by
    rcases nm_dec .f32 a with h | h
    · exact h
    · exfalso
      obtain ⟨s', m', e', hrc⟩ := hc
      obtain ⟨s2, m2, e2, hrd⟩ := hd
      rcases not_nm h with h | ⟨s, h⟩
      · obtain ⟨s, t, hr⟩ := nan_word h
        have h1 : fge .f32 a c = true := h1
        unfold fge Format.order at h1
        rw [hr] at h1; cases h1
      · cases s
        · have h2 : fle .f32 a d = true := h2
          unfold fle Format.order at h2
          rw [h, hrd] at h2; cases h2
        · have h1 : fge .f32 a c = true := h1
          unfold fge Format.order at h1
          rw [h, hrc] at h1; cases h1
  refine ⟨hN, ?_, ?_⟩
  · rw [geq_nm hN hc] at h1; exact of_decide_eq_true h1
  · rw [leq_nm hN hd] at h2; exact of_decide_eq_true h2

theorem below_nm {a c d : Nat} (hc : Nm .f32 c) (hd : Nm .f32 d) (h1 : R.cmp .geq .f32 a c = true) (h2 : R.cmp .lss .f32 a d = true) : Nm .f32 a ∧ fv .f32 c ≤ fv .f32 a ∧ fv .f32 a < fv .f32 d := by
  have hN : Nm .f32 a := by
    rcases nm_dec .f32 a with h | h
    · exact h
    · exfalso
      obtain ⟨s', m', e', hrc⟩ := hc
      obtain ⟨s2, m2, e2, hrd⟩ := hd
      rcases not_nm h with h | ⟨s, h⟩
      · obtain ⟨s, t, hr⟩ := nan_word h
        have h1 : fge .f32 a c = true := h1
        unfold fge Format.order at h1
        rw [hr] at h1; cases h1
      · cases s
        · have h2 : flt .f32 a d = true := h2
          unfold flt Format.order at h2
          rw [h, hrd] at h2; cases h2
        · have h1 : fge .f32 a c = true := h1
          unfold fge Format.order at h1
          rw [h, hrc] at h1; cases h1
  refine ⟨hN, ?_, ?_⟩
  · rw [geq_nm hN hc] at h1; exact of_decide_eq_true h1
  · rw [lss_nm hN hd] at h2; exact of_decide_eq_true h2

theorem nm_nq32 : Nm .f32 3196059648 := ⟨_, _, _, rfl⟩
theorem fv_nq32 : fv .f32 3196059648 = -(1 / 4) := by decide +kernel
theorem place_in {n e : Nat} (h : p_impl_ValidPlace R n e = true) : Nm .f32 n ∧ -(1 / 4) ≤ fv .f32 n ∧ fv .f32 n ≤ 1 / 4 ∧ InH e := by
  unfold p_impl_ValidPlace p_impl_inside at h
  cases h1 : R.cmp .geq .f32 n 3196059648
  · rw [h1] at h; cases h
  cases h2 : R.cmp .leq .f32 n 1048576000
  · rw [h1, h2] at h; cases h
  cases h3 : R.cmp .geq .f32 e 3204448256
  · rw [h1, h2, h3] at h; cases h
  cases h4 : R.cmp .lss .f32 e 1056964608
  · rw [h1, h2, h3, h4] at h; cases h
  obtain ⟨a1, a2, a3⟩ := between_nm nm_nq32 nm_q32 h1 h2
  obtain ⟨b1, b2, b3⟩ := below_nm nm_nh32 nm_h32 h3 h4
  rw [fv_nq32] at a2; rw [fv_q32] at a3; rw [fv_nh32] at b2; rw [fv_h32] at b3
  exact ⟨a1, a2, a3, b1, b2, b3⟩

end Go.Dv
