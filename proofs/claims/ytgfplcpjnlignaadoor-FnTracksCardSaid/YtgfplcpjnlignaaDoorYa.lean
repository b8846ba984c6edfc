/- Ga, Na: merged by merge.py. -/
/- Printed by gen2.py. -/
import Derived.Test.YtgfplcpjnlignaaDoorZke
import Derived.Test.YtgfplcpjnlignaaDoorFv

/- Bounds of the numbers that the sine and the angle give; that what is narrowed fits. No program is in sight. -/
set_option linter.unusedVariables false
namespace Go.Dv
open Go.Cv
open Ieee

/-- a number no greater than a power of two -/
def Bd (a : Nat) (E : Int) : Prop := Nm .f64 a ∧ fv .f64 a ≤ p2 E ∧ -(fv .f64 a) ≤ p2 E

theorem bd_mono {a : Nat} {E F : Int} (h : Bd a E) (hE : E ≤ F) : Bd a F := by
  have := p2_mono hE
  exact ⟨h.1, by have := h.2.1; grind, by have := h.2.2; grind⟩

theorem mul_bound {x y P Q : Rat} (h1 : x ≤ P) (h2 : -x ≤ P) (h3 : y ≤ Q) (h4 : -y ≤ Q) : x * y ≤ P * Q ∧ -(x * y) ≤ P * Q := by
  have hP : 0 ≤ P := by grind
  have hQ : 0 ≤ Q := by grind
  have a1 : 0 ≤ (P - x) * (Q + y) := Rat.mul_nonneg (by grind) (by grind)
  have a2 : 0 ≤ (P + x) * (Q - y) := Rat.mul_nonneg (by grind) (by grind)
  have a3 : 0 ≤ (P - x) * (Q - y) := Rat.mul_nonneg (by grind) (by grind)
  have a4 : 0 ≤ (P + x) * (Q + y) := Rat.mul_nonneg (by grind) (by grind)
  constructor <;> grind

theorem bd_mul {a b : Nat} {E F : Int} (ha : Bd a E) (hb : Bd b F) (h1 : -1074 ≤ E + F) (h2 : E + F ≤ 1023) : Bd (R.bin .mul .f64 a b) (E + F) := by
  obtain ⟨h3, h4⟩ := mul_bound ha.2.1 ha.2.2 hb.2.1 hb.2.2
  rw [← p2_add] at h3 h4
  exact (rd_mul ha.1 hb.1).le _ h1 h2 h3 h4
theorem p2_succ (E : Int) : p2 (E + 1) = p2 E + p2 E := by
  rw [p2_add]
  have : p2 1 = 2 := by unfold p2; exact Rat.zpow_one _
  rw [this]; grind
theorem bd_add {a b : Nat} {E : Int} (ha : Bd a E) (hb : Bd b E) (h1 : -1074 ≤ E + 1) (h2 : E + 1 ≤ 1023) : Bd (R.bin .add .f64 a b) (E + 1) := by
  have := p2_succ E
  have := ha.2.1; have := ha.2.2; have := hb.2.1; have := hb.2.2
  exact (rd_add ha.1 hb.1).le _ h1 h2 (by grind) (by grind)
/-! ### the sine -/

theorem bd_half : Bd 4602678819172646912 0 := ⟨⟨_, _, _, rfl⟩, by decide +kernel, by decide +kernel⟩
theorem bd_zero : Bd 0 0 := ⟨⟨_, _, _, rfl⟩, by decide +kernel, by decide +kernel⟩
theorem fv_zero : fv .f64 0 = 0 := by decide +kernel

/-! ### fractions -/
def wholeW (y : Nat) : Nat := bif R.cmp .eql .f64 (R.trunc y) 0 then 0 else R.trunc y

/-- numbers below 2^52 -/
theorem whole_small {y : Nat} {s : Bool} {m : Nat} {e : Int} (hr : FloatKind.f64.format.read y = .number s m e) (h : mg m e ≤ p2 52) : wholeOf m e ≤ 2 ^ 53 := by
  have h1 := Rat.le_trans (wholeOf_le m e) h
  have h2 : p2 52 = mg (2 ^ 52) 0 := by rw [mg_nat0]; exact p2_nat 52
  rw [h2] at h1
  have := mg_le.1 h1
  omega

/-- the whole part as an integer -/
theorem toi_nm {y : Nat} {s : Bool} {m : Nat} {e : Int} (hr : FloatKind.f64.format.read y = .number s m e) (h : mg m e ≤ p2 52) :
    R.toiOk .f64 y .i64 = true ∧ R.ofi .f64 (R.toi .f64 y .i64) = wholeW y := by
  have hs := whole_small hr h
  obtain ⟨m', e', hx, hv⟩ := trunc_nm hr hs
  have h1 : ftoi .f64 y .i64 = some (signed s (wholeOf m e) 0) := by
    unfold ftoi floatToIntVal
    have h2 : (FloatKind.f64.decode y).toInt .zero = some (signed s (wholeOf m e) 0) := by
      rw [decode_eq, hr]
      unfold Datum.toInt Datum.integral
      simp only [cut_zero_eq]
      rfl
    rw [h2]
    have h3 : IntKind.i64.min ≤ signed s (wholeOf m e) 0 ∧ signed s (wholeOf m e) 0 ≤ IntKind.i64.max := by
      have a1 : IntKind.i64.min = -9223372036854775808 := by decide
      have a2 : IntKind.i64.max = 9223372036854775807 := by decide
      rw [a1, a2]
      unfold signed
      have : wholeOf m e <<< 0 = wholeOf m e := by simp
      rw [this]
      have : wholeOf m e ≤ 9007199254740992 := hs
      split <;> omega
    simp only
    rw [if_pos h3]
  refine ⟨?_, ?_⟩
  · show (ftoi .f64 y .i64).isSome = true
    rw [h1]; rfl
  · show fofi .f64 ((ftoi .f64 y .i64).getD 0) = _
    rw [h1, Option.getD_some]
    unfold fofi
    have hT := trunc_form hr
    have hTN : Nm .f64 (R.trunc y) := ⟨_, _, _, hx⟩
    unfold wholeW
    rw [eql_nm hTN bd_zero.1, fv_zero]
    have h0 : wholeOf m e <<< 0 = wholeOf m e := by simp
    by_cases hz : wholeOf m e = 0
    · have hc : fv .f64 (R.trunc y) = 0 := by
        unfold fv; rw [hx]; rw [hz] at hv
        cases s <;> simp only [vd_true, vd_false, hv] <;> simp
      rw [decide_eq_true hc, cond_true]
      have : signed s (wholeOf m e) 0 = 0 := by unfold signed; rw [h0, hz]; cases s <;> rfl
      rw [this]; decide
    · have hc : ¬ fv .f64 (R.trunc y) = 0 := by
        have : 0 < (wholeOf m e : Rat) := Rat.natCast_pos.2 (by omega)
        unfold fv; rw [hx]
        cases s <;> simp only [vd_true, vd_false, hv] <;> grind
      rw [decide_eq_false hc, cond_false]
      have h5 : floatOfInt .f64 (signed s (wholeOf m e) 0) = R.trunc y := by
        rw [hT]
        unfold floatOfInt FloatKind.nearest FloatKind.encode Format.write
        simp only
        have a1 : (decide (signed s (wholeOf m e) 0 < 0)) = s := by
          unfold signed; rw [h0]
          cases s
          · simp
          · simp; omega
        have a2 : (signed s (wholeOf m e) 0).natAbs = wholeOf m e := by
          unfold signed; rw [h0]
          cases s <;> simp
        rw [a1, a2]
      rw [h5, cn_of_not (nm_not_nan hTN)]

end Go.Dv

/- That what is narrowed fits (part 1). -/
namespace Go.Dv
open Go.Cv
open Ieee

end Go.Dv


set_option linter.unusedVariables false
set_option linter.unusedSimpArgs false

-- GENERATED BELOW (gen.py)
namespace Go.Proofs.YtgfplcpjnlignaaDoor
open Go Go.Cv Go.Dv
set_option maxRecDepth 100000 in
theorem e_math_Floor (M : FOps) (a0 : Nat) : cwp M Tryd.prog (envOf [(94, un64 M.floor)]) (lamOf []) 40 (Tryd.f90.body.getD .skip) 0 (retK Tryd.prog Tryd.f90.results.toList (.cons (.one (.fl .f64)) .nil) 0) (initSt (.cons (.one (.fl .f64)) .nil) (a0, ())) = some (F_math_Floor (p_math_Floor M a0)) := by kernel_rfl
theorem ok_math_Floor : OkFn Tryd.prog 90 (S_math_Floor R) :=
  okFn_of (good_cons ok_archFloor good_nil) follows Tryd.func90 rfl (by decide) (by decide) lam_nil (m := 1) (fun _ => rfl) (by decide) (fun _ _ h => nomatch h) (fun _ _ h => nomatch h) (fun x _ => ⟨40, e_math_Floor R x.1⟩)

set_option maxRecDepth 100000 in
theorem e_impl_inside (M : FOps) (a0 : Nat) (a1 : Nat) (a2 : Nat) : cwp M Tryd.prog (envOf []) (lamOf []) 40 (Tryd.f62.body.getD .skip) 0 (retK Tryd.prog Tryd.f62.results.toList (.cons (.one .bool) .nil) 0) (initSt (.cons (.one (.fl .f32)) (.cons (.one (.fl .f32)) (.cons (.one (.fl .f32)) .nil))) (a0, (a1, (a2, ())))) = some (F_impl_inside (p_impl_inside M a0 a1 a2)) := 
  Eq.trans (b := (brT (M.cmp BinOp.geq FloatKind.f32 a0 a1) (some (F_impl_inside (M.cmp BinOp.leq FloatKind.f32 a0 a2))) (some (F_impl_inside (false))))) (by kernel_rfl)
    ((push2 rfl rfl))
theorem ok_impl_inside : OkFn Tryd.prog 62 (S_impl_inside R) :=
  okFn_of good_nil follows Tryd.func62 rfl (by decide) (by decide) lam_nil (m := 3) (fun _ => rfl) (by decide) (fun _ _ h => nomatch h) (fun _ _ h => nomatch h) (fun x _ => ⟨40, e_impl_inside R x.1 x.2.1 x.2.2.1⟩)

set_option maxRecDepth 100000 in
theorem e_impl_ValidPlace (M : FOps) (a0_0 : Nat) (a0_1 : Nat) : cwp M Tryd.prog (envOf [(62, S_impl_inside M)]) (lamOf []) 40 (Tryd.f36.body.getD .skip) 0 (retK Tryd.prog Tryd.f36.results.toList (.cons (.one .bool) .nil) 0) (initSt (.cons (.agg (.pair (.fl .f32) (.fl .f32))) .nil) ((a0_0, a0_1), ())) = some (F_impl_ValidPlace (p_impl_ValidPlace M a0_0 a0_1)) := 
  Eq.trans (b := (brT (p_impl_inside M a0_0 3196059648 1048576000) (brT (M.cmp BinOp.geq FloatKind.f32 a0_1 3204448256) (some (F_impl_ValidPlace (M.cmp BinOp.lss FloatKind.f32 a0_1 1056964608))) (some (F_impl_ValidPlace (false)))) (some (F_impl_ValidPlace (false))))) (by kernel_rfl)
    ((push2 (push2 rfl rfl) rfl))
theorem ok_impl_ValidPlace : OkFn Tryd.prog 36 (S_impl_ValidPlace R) :=
  okFn_of (good_cons ok_impl_inside good_nil) follows Tryd.func36 rfl (by decide) (by decide) lam_nil (m := 1) (fun _ => rfl) (by decide) (fun _ _ h => nomatch h) (fun _ _ h => nomatch h) (fun x _ => ⟨40, e_impl_ValidPlace R x.1.1 x.1.2⟩)

set_option maxRecDepth 100000 in
theorem e_impl_within (M : FOps) (a0 : Int) (a1 : Int) (a2 : Int) : cwp M Tryd.prog (envOf []) (lamOf []) 40 (Tryd.f41.body.getD .skip) 0 (retK Tryd.prog Tryd.f41.results.toList (.cons (.one .bool) .nil) 0) (initSt (.cons (.one (.int .i64)) (.cons (.one (.int .i64)) (.cons (.one (.int .i64)) .nil))) (a0, (a1, (a2, ())))) = some (F_impl_within (p_impl_within M a0 a1 a2)) := 
  Eq.trans (b := (brT (decide (a1 ≤ a0)) (some (F_impl_within (decide (a0 ≤ a2)))) (some (F_impl_within (false))))) (by kernel_rfl)
    ((push2 rfl rfl))
theorem ok_impl_within : OkFn Tryd.prog 41 (S_impl_within R) :=
  okFn_of good_nil follows Tryd.func41 rfl (by decide) (by decide) lam_nil (m := 3) (fun _ => rfl) (by decide) (fun _ _ h => nomatch h) (fun _ _ h => nomatch h) (fun x _ => ⟨40, e_impl_within R x.1 x.2.1 x.2.2.1⟩)

end Go.Proofs.YtgfplcpjnlignaaDoor
