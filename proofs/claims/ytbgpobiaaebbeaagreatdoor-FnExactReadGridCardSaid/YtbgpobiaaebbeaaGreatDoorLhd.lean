/- The plain law of texts of grids. -/
/- The plain law of stored tracks: numbers in as many bytes as they take; check numbers; texts of bytes. -/
import Derived.Test.YtbgpobiaaebbeaaGreatDoorWkc
import Derived.Test.YtbgpobiaaebbeaaGreatDoorWkq
import Derived.Test.YtbgpobiaaebbeaaGreatDoorWa
import Derived.Test.YtbgpobiaaebbeaaGreatDoorEa
import Derived.Test.YtbgpobiaaebbeaaGreatDoorLha

set_option linter.unusedSimpArgs false
namespace Go.Dv
open Go.Cv

/-! ### numbers of one digit or two -/
/-! ### the text of two numbers -/
/-! ### lists of numbers -/
theorem finite_run (l : List Nat) (h : l.length ≤ 4611686018427387903) : p_spec_l02Finite R l = (l.all fun x => p_spec_l01Finite R x) ∧ r_spec_l02Finite R l = true := by
  have hr := runW_scan (n := l.length) (step := fun x => st_spec_l02Finite_0 R x.1 x.2.1 x.2.2.1) (test := fun i => p_spec_l01Finite R (l.getD i 0)) (mk := fun i => (l, (i : Int), false, ())) (oT := .inr (false, ())) (oF := fun _ => .inl (false, ()))
    (fun i hi => by
      simp only [st_spec_l02Finite_0]
      rw [wrap_succ (by omega)]
      have a1 : decide ((i : Int) < (l.length : Int)) = true := dt (by omega)
      have a2 : decide (0 ≤ (i : Int)) = true := dt (by omega)
      have hv : l.getD ((i : Int)).toNat 0 = l.getD i 0 := rfl
      rw [a1, a2, hv]
      cases p_spec_l01Finite R (l.getD i 0) <;> rfl)
    (by
      simp only [st_spec_l02Finite_0]
      have a1 : decide ((l.length : Int) < (l.length : Int)) = false := df (by omega)
      rw [a1]; rfl)
  have hc : c0_spec_l02Finite R l = runW (fun x => st_spec_l02Finite_0 R x.1 x.2.1 x.2.2.1) (l, ((0 : Nat) : Int), false, ()) := rfl
  unfold p_spec_l02Finite r_spec_l02Finite
  rcases hr with ⟨hall, hr⟩ | ⟨j, hj, ht, hr⟩
  · rw [hc, hr]
    refine ⟨?_, rfl⟩
    have : (l.all fun x => p_spec_l01Finite R x) = true := all_iff.1 fun i hi => by
      have := hall i hi; rwa [getD_lt hi] at this
    rw [this]; rfl
  · rw [hc, hr]
    refine ⟨?_, rfl⟩
    have : (l.all fun x => p_spec_l01Finite R x) = false := by
      rw [← Bool.not_eq_true]
      intro hall
      have := all_iff.2 hall j hj
      rw [getD_lt hj] at ht
      rw [ht] at this; cases this
    rw [this]; rfl

theorem eqF_run (l : List Nat) (h : l.length ≤ 1048576) : p_laws_eqFloat32S R l l = true ∧ r_laws_eqFloat32S R l l = true := by
  have hr := runW_count (n := l.length) (step := fun x => st_laws_eqFloat32S_0 R x.1 x.2.1 x.2.2.1 x.2.2.2.1) (mk := fun i => (l, l, (i : Int), false, ())) (o := .inr (false, ()))
    (fun i hi => by
      simp only [st_laws_eqFloat32S_0]
      rw [wrap_succ (by omega), sameFloat_refl]
      have a1 : decide ((i : Int) < (l.length : Int)) = true := dt (by omega)
      have a2 : decide (0 ≤ (i : Int)) = true := dt (by omega)
      rw [a1, a2]
      rfl)
    (by
      simp only [st_laws_eqFloat32S_0]
      have a1 : decide ((l.length : Int) < (l.length : Int)) = false := df (by omega)
      rw [a1]; rfl)
  have hc : c0_laws_eqFloat32S R l l = some (.inr (false, ())) := hr
  have hn : ((l.length : Int) != (l.length : Int)) = false := by simp
  unfold p_laws_eqFloat32S r_laws_eqFloat32S
  rw [hc, hn]
  exact ⟨rfl, rfl⟩

theorem eqGrid_refl (a b : Int) (l : List Nat) (h : l.length ≤ 1048576) : p_laws_eqGrid R a b l a b l = true ∧ r_laws_eqGrid R a b l a b l = true := by
  obtain ⟨h1, h2⟩ := eqF_run l h
  have hn : ∀ x : Int, (x != x) = false := fun x => by simp
  unfold p_laws_eqGrid r_laws_eqGrid
  rw [hn, hn, h1, h2]
  exact ⟨rfl, rfl⟩

/-! ### texts of grids -/
theorem valid_eq (a b : Int) (l : List Nat) (h : l.length ≤ 1048576) : p_impl_ValidGrid R a b l = p_spec_l06Is R a b l ∧ r_impl_ValidGrid R a b l = true ∧ r_spec_l06Is R a b l = true ∧ (p_spec_l06Is R a b l = true → (2 ≤ a ∧ a ≤ 16) ∧ (2 ≤ b ∧ b ≤ 16) ∧ l.length ≤ 256) := by
  obtain ⟨f1, f2⟩ := finite_run l (by omega)
  have hs : p_impl_areSides R a b = p_spec_l06Sides R a b := rfl
  have hf : (l.all fun x => p_impl_IsFinite R x) = p_spec_l02Finite R l := by
    have e : (fun x => p_impl_IsFinite R x) = fun x => p_spec_l01Finite R x := funext fin_same
    rw [f1, e]
  have hl : p_impl_length_float32 R l = (l.length : Int) := rfl
  unfold p_impl_ValidGrid r_impl_ValidGrid r_spec_l06Is
  rw [hs, hl, hf, f2, dt (show l.length < 4611686018427387904 by omega)]
  refine ⟨rfl, ?_, ?_, fun hv => ?_⟩
  · cases p_spec_l06Sides R a b <;> cases ((l.length : Int) == IntKind.i64.wrap (a * b)) <;> rfl
  · cases p_spec_l06Sides R a b <;> cases ((l.length : Int) == IntKind.i64.wrap (a * b)) <;> rfl
  · unfold p_spec_l06Is at hv
    cases h1 : p_spec_l06Sides R a b
    · rw [h1] at hv; cases hv
    · rw [h1] at hv
      have h1' : (2 ≤ a ∧ a ≤ 16) ∧ (2 ≤ b ∧ b ≤ 16) := by
        unfold p_spec_l06Sides p_spec_l00In at h1
        by_cases c1 : a ≥ 2
        · by_cases c2 : a ≤ 16
          · by_cases c3 : b ≥ 2
            · by_cases c4 : b ≤ 16
              · exact ⟨⟨c1, c2⟩, c3, c4⟩
              · rw [dt c1, dt c2, dt c3, df c4] at h1; cases h1
            · rw [dt c1, dt c2, df c3] at h1; cases h1
          · rw [dt c1, df c2] at h1; cases h1
        · rw [df c1] at h1; cases h1
      refine ⟨h1'.1, h1'.2, ?_⟩
      cases h2 : ((l.length : Int) == IntKind.i64.wrap (a * b))
      · rw [h2] at hv; cases hv
      · have e : (l.length : Int) = IntKind.i64.wrap (a * b) := by simpa using h2
        have hm : a * b ≤ 16 * 16 := Int.mul_le_mul h1'.1.2 h1'.2.2 (by omega) (by omega)
        have hp : 0 ≤ a * b := Int.mul_nonneg (by omega) (by omega)
        rw [wrap_small (by omega) (by omega)] at e
        omega

end Go.Dv


set_option linter.unusedSimpArgs false
namespace Go.Dv
open Go.Cv

/-! ### numbers in bytes -/
theorem wrap8 (i : Int) : IntKind.u8.wrap i = i % 256 := by
  unfold IntKind.wrap
  have e1 : (IntKind.u8.bits) = 8 := rfl
  simp [IntKind.signed, e1]
theorem wrapu {i : Int} (h0 : 0 ≤ i) (h1 : i < 9223372036854775808) : IntKind.u64.wrap i = i := by rw [IntKind.wrap_u64]; omega
theorem ble_of {a b : Nat} (h : a ≤ b) : Nat.ble a b = true := Nat.ble_eq_true_of_le h

/-! ### places in bytes -/
/-! ### check numbers -/
/-! ### texts of bytes -/
theorem bytes_append (a b : List Int) : p_bytes (a ++ b) = p_bytes a ++ p_bytes b := by
  apply ByteArray.ext
  simp [p_bytes]
end Go.Dv
