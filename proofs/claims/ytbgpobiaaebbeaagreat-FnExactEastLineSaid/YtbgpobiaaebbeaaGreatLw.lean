/- Lw, Lx: merged by merge.py. -/
import Derived.Test.YtbgpobiaaebbeaaGreatNc

/- The program's plain functions are the reference's. No program is in sight. -/
namespace Go.Dv
open Go.Cv
open Ieee

theorem cos_eq (a : Nat) : p_impl_cosine R a = p_spec_l02Cosine R a := sine_eq _
theorem way_eq (a b : Nat) : p_impl_Place_way R a b = p_spec_l02Way R a b := by
  unfold p_impl_Place_way p_spec_l02Way
  simp only [cos_eq, sine_eq]
theorem wrap_eq (a : Nat) : p_impl_wrap R a = p_spec_l02Wrap R a := rfl
theorem dot_eq (a b c d e f : Nat) : p_impl_dotOf R a b c d e f = p_spec_l02Dot R a b c d e f := rfl
theorem cross_eq (a b c d e f : Nat) : p_impl_cross R a b c d e f = p_spec_l02Cross R a b c d e f := rfl
theorem long_eq (a b c : Nat) : p_impl_Way_long R a b c = p_spec_l02Long R a b c := rfl
theorem pos_eq (a : Nat) : p_impl_positive R a = p_spec_l02Above0 R a := rfl
theorem place_eq (a b : Nat) : p_impl_ValidPlace R a b = p_spec_l02Is R a b := by
  unfold p_impl_ValidPlace p_spec_l02Is p_impl_inside
  cases R.cmp .geq .f32 a 3196059648 <;> rfl
theorem apart_eq (a b c d : Nat) : p_impl_apart R a b c d = p_spec_l02Apart R a b c d := by
  unfold p_impl_apart p_spec_l02Apart
  simp only [c0_impl_apart, c1_impl_apart, c2_impl_apart, c0_spec_l02Apart, c1_spec_l02Apart, c2_spec_l02Apart, way_eq, ang_eq, long_eq, dot_eq, cross_eq]
theorem course_eq (a b c d : Nat) : p_impl_course R a b c d = p_spec_l02Course R a b c d := by
  unfold p_impl_course p_spec_l02Course
  simp only [c0_impl_course, c1_impl_course, c0_spec_l02Course, c1_spec_l02Course, cos_eq, sine_eq, ang_eq, pos_eq]

/-! ### what is compared -/
theorem sameFloat_refl (x : Nat) : p_laws_sameFloat R x x = true := by
  unfold p_laws_sameFloat
  simp only [neq_not]
  cases h : R.cmp .eql .f64 x x
  · rfl
  · cases R.cmp .eql .f64 x 0
    · simp
    · simp
end Go.Dv

/- The program's plain functions are the reference's (part 2). No program is in sight. -/
namespace Go.Dv
open Go.Cv
open Ieee

theorem share_far {a s : Nat} (h : ¬ Nm .f32 a) : ¬ Nm .f32 (R.bin .mul .f32 a s) := by
  have hm : R.bin .mul .f32 a s = (FloatKind.f32.format.mul a s).getD (nanOf .f32) := rfl
  rw [hm]
  unfold Format.mul
  have hw : ∀ t : Bool, ¬ Nm .f32 (FloatKind.f32.format.write (.infinity t)) := by intro t; cases t <;> decide
  have hn : ¬ Nm .f32 (nanOf .f32) := by decide
  cases ha : FloatKind.f32.format.read a with
  | number s1 m e => exact absurd ⟨_, _, _, ha⟩ h
  | nan s1 t => exact hn
  | infinity s1 =>
    cases hs : FloatKind.f32.format.read s with
    | nan s2 t => exact hn
    | infinity s2 => exact hw _
    | number s2 m e =>
      unfold Datum.product
      by_cases h0 : m = 0
      · simp only [if_pos h0]; exact hn
      · simp only [if_neg h0]; exact hw _

end Go.Dv
