/- Lw, Lx: merged by merge.py. -/
import Derived.Test.YtbgpobiaaebbeaaGreatNc

/- The program's plain functions are the reference's. No program is in sight. -/
namespace Go.Dv
open Go.Cv
open Ieee

theorem cos_eq (a : Nat) : p_impl_cosine R a = p_spec_l02Cosine R a := sine_eq _
theorem way_eq (a b : Nat) : p_impl_Place_way R a b = p_spec_l02Way R a b := by
  unfold p_impl_Place_way p_spec_l02Way
  simp only [cos_eq, sine_eq]
theorem root_eq (a : Nat) : p_impl_RootNumber R a = p_spec_l01Sqrt R a := rfl
theorem wrap_eq (a : Nat) : p_impl_wrap R a = p_spec_l02Wrap R a := rfl
theorem dot_eq (a b c d e f : Nat) : p_impl_dotOf R a b c d e f = p_spec_l02Dot R a b c d e f := rfl
theorem cross_eq (a b c d e f : Nat) : p_impl_cross R a b c d e f = p_spec_l02Cross R a b c d e f := rfl
theorem long_eq (a b c : Nat) : p_impl_Way_long R a b c = p_spec_l02Long R a b c := rfl
theorem pos_eq (a : Nat) : p_impl_positive R a = p_spec_l02Above0 R a := rfl
theorem place_eq (a b : Nat) : p_impl_ValidPlace R a b = p_spec_l02Is R a b := by
  unfold p_impl_ValidPlace p_spec_l02Is p_impl_inside
  cases R.cmp .geq .f32 a 3196059648 <;> rfl
theorem give_eq (a b : Nat) : p_impl_valid R a b true = p_spec_l02Give R a b := by
  unfold p_impl_valid p_spec_l02Give
  rw [place_eq]; rfl
theorem apart_eq (a b c d : Nat) : p_impl_apart R a b c d = p_spec_l02Apart R a b c d := by
  unfold p_impl_apart p_spec_l02Apart
  simp only [c0_impl_apart, c1_impl_apart, c2_impl_apart, c0_spec_l02Apart, c1_spec_l02Apart, c2_spec_l02Apart, way_eq, ang_eq, long_eq, dot_eq, cross_eq]
theorem course_eq (a b c d : Nat) : p_impl_course R a b c d = p_spec_l02Course R a b c d := by
  unfold p_impl_course p_spec_l02Course
  simp only [c0_impl_course, c1_impl_course, c0_spec_l02Course, c1_spec_l02Course, cos_eq, sine_eq, ang_eq, pos_eq]

theorem root_nm {d : Nat} (h : ¬ Nm .f32 d) : ¬ Nm .f32 (p_impl_RootNumber R d) := by
  show ¬ Nm .f32 (R.nar (R.sqrt (R.wid d)))
  rcases not_nm h with h | ⟨s, h⟩
  · rw [wid_nan h]; decide
  · have hw : R.wid d = FloatKind.f64.format.write (.infinity s) := by
      have hn : isNan .f32 d = false := by unfold isNan; rw [h]; rfl
      show (fconv .f32 d .f64).getD 0 = _
      unfold fconv floatToFloatBits FloatKind.decode FloatKind.encode
      rw [hn, h]
      rfl
    rw [hw]
    cases s <;> decide

theorem from_eq (a b c : Nat) : p_impl_PlaceOfWay R a b c = p_spec_l02From R a b c := by
  unfold p_impl_PlaceOfWay p_spec_l02From c0_impl_PlaceOfWay c1_impl_PlaceOfWay c0_spec_l02From p_impl_LongOfWay c0_impl_LongOfWay c1_impl_LongOfWay p_impl_isWay p_spec_l02Ways p_spec_l02Above p_impl_finite
  simp only [ang_eq, root_eq, wrap_eq, give_eq, dot_eq, long_eq, fin_same]
  cases p_spec_l01Finite R a <;> cases p_spec_l01Finite R b <;> cases p_spec_l01Finite R c <;> try rfl
  have hl : p_spec_l02Long R a b c = p_impl_RootNumber R (p_spec_l02Dot R a b c a b c) := rfl
  have key : p_spec_l01Finite R (p_spec_l02Dot R a b c a b c) = false → p_spec_l01Finite R (p_spec_l02Long R a b c) = false := by
    rw [fin_spec, fin_spec, hl]
    intro h
    exact decide_eq_false (root_nm (of_decide_eq_false h))
  cases hd : p_spec_l01Finite R (p_spec_l02Dot R a b c a b c)
  · rw [key hd]; rfl
  · cases p_spec_l01Finite R (p_spec_l02Long R a b c)
    · rfl
    · rfl

theorem go_eq (a b c d : Nat) : p_impl_GoFrom R a b c d = p_spec_GoFrom R a b c d := by
  unfold p_impl_GoFrom p_spec_GoFrom c5_impl_GoFrom c0_spec_GoFrom p_spec_l02Go c9_spec_l02Go
  rw [place_eq, from_eq, fin_same, fin_same]
  have h : c4_impl_GoFrom R a b c d = c8_spec_l02Go R a b c d := by
    unfold c4_impl_GoFrom c8_spec_l02Go c0_impl_GoFrom c3_impl_GoFrom c1_spec_l02Go c7_spec_l02Go c6_spec_l02Go c4_spec_l02Go c5_spec_l02Go c0_spec_l02Go c1_impl_GoFrom c2_impl_GoFrom c2_spec_l02Go c3_spec_l02Go p_impl_sumOf p_spec_l02Add p_spec_l02Times
    simp only [way_eq, cos_eq, sine_eq]
  rw [h]
  cases p_spec_l02Is R a b <;> cases p_spec_l01Finite R c <;> cases p_spec_l01Finite R d <;> rfl

/-! ### what is compared -/
theorem sameFloat_refl (x : Nat) : p_laws_sameFloat R x x = true := by
  unfold p_laws_sameFloat
  simp only [neq_not]
  cases h : R.cmp .eql .f64 x x
  · rfl
  · cases R.cmp .eql .f64 x 0
    · simp
    · simp
end Go.Dv

/- The program's plain functions are the reference's (part 2). No program is in sight. -/
namespace Go.Dv
open Go.Cv
open Ieee

theorem two_eq (a b c d : Nat) : (p_impl_ValidPlace R a b && (p_impl_ValidPlace R c d && true)) = p_spec_l02Two R a b c d := by
  unfold p_spec_l02Two
  rw [place_eq, place_eq]
  cases p_spec_l02Is R a b <;> cases p_spec_l02Is R c d <;> rfl

theorem share_far {a s : Nat} (h : ¬ Nm .f32 a) : ¬ Nm .f32 (R.bin .mul .f32 a s) := by
  have hm : R.bin .mul .f32 a s = (FloatKind.f32.format.mul a s).getD (nanOf .f32) := rfl
  rw [hm]
  unfold Format.mul
  have hw : ∀ t : Bool, ¬ Nm .f32 (FloatKind.f32.format.write (.infinity t)) := by intro t; cases t <;> decide
  have hn : ¬ Nm .f32 (nanOf .f32) := by decide
  cases ha : FloatKind.f32.format.read a with
  | number s1 m e => exact absurd ⟨_, _, _, ha⟩ h
  | nan s1 t => exact hn
  | infinity s1 =>
    cases hs : FloatKind.f32.format.read s with
    | nan s2 t => exact hn
    | infinity s2 => exact hw _
    | number s2 m e =>
      unfold Datum.product
      by_cases h0 : m = 0
      · simp only [if_pos h0]; exact hn
      · simp only [if_neg h0]; exact hw _

set_option maxRecDepth 20000 in
theorem share_eq (a b c d s : Nat) : p_impl_ShareOfWay R a b c d s = p_spec_ShareOfWay R a b c d s := by
  unfold p_impl_ShareOfWay p_spec_ShareOfWay c0_impl_ShareOfWay c3_spec_ShareOfWay c2_spec_ShareOfWay c0_spec_ShareOfWay c1_spec_ShareOfWay p_spec_CourseTo p_spec_ApartOf c0_spec_CourseTo c0_spec_ApartOf p_spec_l02Number
  rw [two_eq, fin_same, go_eq, course_eq, apart_eq]
  unfold p_spec_GoFrom c0_spec_GoFrom
  have ht : p_spec_l02Two R a b c d = true → p_spec_l02Is R a b = true := by
    unfold p_spec_l02Two
    cases p_spec_l02Is R a b
    · intro h; cases h
    · intro _; rfl
  have hf : p_spec_l01Finite R (p_spec_l02Apart R a b c d) = false → p_spec_l01Finite R (R.bin .mul .f32 (p_spec_l02Apart R a b c d) s) = false := by
    intro ha
    rw [fin_spec] at ha ⊢
    exact decide_eq_false (share_far (of_decide_eq_false ha))
  generalize p_spec_l02Apart R a b c d = A at *
  generalize p_spec_l02Course R a b c d = C at *
  generalize hfa : p_spec_l01Finite R A = fa at *
  generalize p_spec_l01Finite R C = fc at *
  generalize p_spec_l01Finite R s = fs at *
  cases h2 : p_spec_l02Two R a b c d
  · simp
  · rw [ht h2]
    cases fs
    · cases fc <;> cases fa <;> simp
    · cases fc
      · simp
      · cases fa
        · simp [hf rfl]
        · simp
end Go.Dv
