/- The contracts of sine and angle over this translation. -/
import Derived.Test.YtggaemodkekeeaaQc
import Derived.Test.YtggaemodkekeeaaYa

namespace Go.Proofs.Ytggaemodkekeeaa
open Go Go.Cv Go.Dv

set_option maxRecDepth 100000 in
theorem e_impl_sine (M : FOps) (t : Nat) : cwp M Try.prog (envOf [(114, S_impl_fraction M)]) (lamOf []) 20 (Try.f107.body.getD .skip) 0 (retK Try.prog Try.f107.results.toList sigF 0) (initSt sigF (t, ())) = some (F_f64 (p_impl_sine M t)) :=
  Eq.trans (b := sineTree M (p_impl_fraction M t)) (by kernel_rfl) (sineTree_eq M _)

theorem ok_impl_sine : OkFn Try.prog 107 (S_impl_sine R) :=
  okFn_of (good_cons ok_impl_fraction good_nil) follows Try.func107 rfl (by decide) (by decide) lam_nil (m := 1) (fun _ => rfl) (by decide) (fun _ _ h => nomatch h) (fun _ _ h => nomatch h) (fun x _ => ⟨20, e_impl_sine R x.1⟩)

set_option maxRecDepth 100000 in
theorem e_spec_l01SineWide (M : FOps) (y : Nat) (h : r_spec_l01SineWide M y = true) : cwp M Try.prog (envOf [(99, S_math_NaN M)]) (lamOf []) 20 (Try.f103.body.getD .skip) 0 (retK Try.prog Try.f103.results.toList sigF 0) (initSt sigF (y, ())) = some (F_f64 (p_spec_l01SineWide M y)) := by
  refine Eq.trans (b := brT (M.cmp .neq .f64 (M.bin .sub .f64 y y) 0) (some (F_f64 (p_math_NaN M)))
    (brT (M.cmp .geq .f64 y 4841369599423283200) (some (F_f64 0)) (brT (M.cmp .leq .f64 y 14064741636278059008) (some (F_f64 0))
      (brT (M.toiOk .f64 y .i64) (brT (M.cmp .lss .f64 (M.bin .sub .f64 y (M.ofi .f64 (M.toi .f64 y .i64))) 0) (sineTree M (M.bin .add .f64 (M.bin .sub .f64 y (M.ofi .f64 (M.toi .f64 y .i64))) 4607182418800017408)) (sineTree M (M.bin .sub .f64 y (M.ofi .f64 (M.toi .f64 y .i64))))) none)))) (by kernel_rfl) ?_
  simp only [sineTree_eq]
  unfold r_spec_l01SineWide at h
  unfold p_spec_l01SineWide specFrac
  cases h1 : M.cmp .neq .f64 (M.bin .sub .f64 y y) 0
  · rw [h1] at h
    cases h2 : M.cmp .geq .f64 y 4841369599423283200
    · rw [h2] at h
      cases h3 : M.cmp .leq .f64 y 14064741636278059008
      · rw [h3] at h
        have h4 : M.toiOk .f64 y .i64 = true := h
        rw [h4]
        cases h5 : M.cmp .lss .f64 (M.bin .sub .f64 y (M.ofi .f64 (M.toi .f64 y .i64))) 0 <;> rfl
      · rfl
    · rfl
  · rfl

theorem ok_spec_l01SineWide_of (hr : ∀ y, r_spec_l01SineWide R y = true) : OkFn Try.prog 103 (S_spec_l01SineWide R) :=
  okFn_of (good_cons ok_math_NaN good_nil) follows Try.func103 rfl (by decide) (by decide) lam_nil (m := 1) (fun _ => rfl) (by decide) (fun _ _ h => nomatch h) (fun _ _ h => nomatch h) (fun x _ => ⟨20, e_spec_l01SineWide R x.1  (hr x.1)⟩)

set_option maxRecDepth 100000 in
theorem e_impl_AngleTurns (M : FOps) (y x : Nat) (h : r_impl_AngleTurns M y x = true) : cwp M Try.prog (envOf [(98, S_impl_areFinite M), (99, S_math_NaN M), (100, un64 M.abs), (101, S_math_Sqrt M)]) (lamOf []) 20 (Try.f79.body.getD .skip) 0 (retK Try.prog Try.f79.results.toList sigF32 0) (initSt sigF32x2 (y, (x, ()))) = some (F_f32 (p_impl_AngleTurns M y x)) := by
  refine Eq.trans (b :=
    let rest := angTree M (M.abs (M.wid y)) (M.abs (M.wid x)) (M.cmp .lss .f32 x 0) (M.cmp .lss .f32 y 0) (fun g => brT (M.narOk g) (some (F_f32 (M.nar g))) none)
    brT (!(angFin M y x)) (brT (M.narOk (p_math_NaN M)) (some (F_f32 (M.nar (p_math_NaN M)))) none)
      (brT (M.cmp .eql .f32 x 0) (brT (M.cmp .eql .f32 y 0) (some (F_f32 0)) rest) rest)) (by kernel_rfl) ?_
  simp only [angTree_eq]
  unfold r_impl_AngleTurns at h
  unfold p_impl_AngleTurns
  have e : angTail M (M.abs (M.wid y)) (M.abs (M.wid x)) (M.cmp .lss .f32 x 0) (M.cmp .lss .f32 y 0) = p_impl_AngleWide M y x := rfl
  rw [e]
  cases h1 : angFin M y x
  · rw [h1] at h
    have h : M.narOk (p_math_NaN M) = true := h
    rw [h]; rfl
  · rw [h1] at h
    cases h2 : M.cmp .eql .f32 x 0
    · rw [h2] at h
      have h : M.narOk (p_impl_AngleWide M y x) = true := h
      rw [h]; rfl
    · rw [h2] at h
      cases h3 : M.cmp .eql .f32 y 0
      · rw [h3] at h
        have h : M.narOk (p_impl_AngleWide M y x) = true := h
        rw [h]; rfl
      · rfl

set_option maxRecDepth 100000 in
theorem e_spec_l01AngleWide (M : FOps) (y x : Nat) : cwp M Try.prog (envOf [(99, S_math_NaN M), (100, un64 M.abs), (101, S_math_Sqrt M)]) (lamOf []) 20 (Try.f86.body.getD .skip) 0 (retK Try.prog Try.f86.results.toList sigF 0) (initSt sigF64x2 (y, (x, ()))) = some (F_f64 (p_spec_l01AngleWide M y x)) := by
  refine Eq.trans (b :=
    let rest := angTree M (M.abs y) (M.abs x) (M.cmp .lss .f64 x 0) (M.cmp .lss .f64 y 0) (fun g => some (F_f64 g))
    let last := brT (M.cmp .eql .f64 x 0) (brT (M.cmp .eql .f64 y 0) (some (F_f64 0)) rest) rest
    brT (M.cmp .neq .f64 (M.bin .sub .f64 y y) 0) (some (F_f64 (p_math_NaN M))) (brT (M.cmp .neq .f64 (M.bin .sub .f64 x x) 0) (some (F_f64 (p_math_NaN M))) last)) (by kernel_rfl) ?_
  simp only [angTree_eq]
  unfold p_spec_l01AngleWide
  cases M.cmp .neq .f64 (M.bin .sub .f64 y y) 0 <;> cases M.cmp .neq .f64 (M.bin .sub .f64 x x) 0 <;> cases M.cmp .eql .f64 x 0 <;> cases M.cmp .eql .f64 y 0 <;> rfl

theorem ok_spec_l01AngleWide : OkFn Try.prog 86 (S_spec_l01AngleWide R) :=
  okFn_of (good_cons ok_math_NaN (good_cons ok_Abs (good_cons ok_math_Sqrt good_nil))) follows Try.func86 rfl (by decide) (by decide) lam_nil (m := 2) (fun _ => rfl) (by decide) (fun _ _ h => nomatch h) (fun _ _ h => nomatch h) (fun x _ => ⟨20, e_spec_l01AngleWide R x.1 x.2.1⟩)

end Go.Proofs.Ytggaemodkekeeaa
