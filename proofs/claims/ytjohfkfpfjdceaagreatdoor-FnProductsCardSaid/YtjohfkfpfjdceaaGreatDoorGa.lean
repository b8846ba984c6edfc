/- Printed by gen2.py. -/
/- Ga, Na: merged by merge.py. -/
import Derived.Test.YtjohfkfpfjdceaaGreatDoorFv
import Derived.Test.YtjohfkfpfjdceaaGreatDoorDt

set_option linter.unusedVariables false
set_option linter.unusedSimpArgs false

-- GENERATED BELOW (gen.py)
namespace Go.Dv
open Go.Cv
noncomputable section
def F_math_Sqrt (r : Nat) : AS.Ty (.cons (.one (.fl .f64)) .nil) × List CS := ((r, ()), [])
def p_math_Sqrt (M : FOps) (a0 : Nat) : Nat :=
  M.sqrt a0
def S_math_Sqrt (M : FOps) : FSpec := mkSpec (.cons (.one (.fl .f64)) .nil) (.cons (.one (.fl .f64)) .nil) (fun _ => true) (fun x => F_math_Sqrt (p_math_Sqrt M x.1))

def F_impl_isFinite (r : Bool) : AS.Ty (.cons (.one .bool) .nil) × List CS := ((r, ()), [])
def p_impl_isFinite (M : FOps) (a0 : Nat) : Bool :=
  M.cmp BinOp.eql FloatKind.f64 (M.bin BinOp.sub FloatKind.f64 a0 a0) 0
def S_impl_isFinite (M : FOps) : FSpec := mkSpec (.cons (.one (.fl .f64)) .nil) (.cons (.one .bool) .nil) (fun _ => true) (fun x => F_impl_isFinite (p_impl_isFinite M x.1))

def F_impl_IsFinite (r : Bool) : AS.Ty (.cons (.one .bool) .nil) × List CS := ((r, ()), [])
def p_impl_IsFinite (M : FOps) (a0 : Nat) : Bool :=
  p_impl_isFinite M (M.wid a0)
def S_impl_IsFinite (M : FOps) : FSpec := mkSpec (.cons (.one (.fl .f32)) .nil) (.cons (.one .bool) .nil) (fun _ => true) (fun x => F_impl_IsFinite (p_impl_IsFinite M x.1))

def F_spec_l01Finite (r : Bool) : AS.Ty (.cons (.one .bool) .nil) × List CS := ((r, ()), [])
def p_spec_l01Finite (M : FOps) (a0 : Nat) : Bool :=
  M.cmp BinOp.eql FloatKind.f32 (M.bin BinOp.sub FloatKind.f32 a0 a0) 0
def S_spec_l01Finite (M : FOps) : FSpec := mkSpec (.cons (.one (.fl .f32)) .nil) (.cons (.one .bool) .nil) (fun _ => true) (fun x => F_spec_l01Finite (p_spec_l01Finite M x.1))

def F_spec_l01Narrow (r : Nat) : AS.Ty (.cons (.one (.fl .f32)) .nil) × List CS := ((r, ()), [])
def p_spec_l01Narrow (M : FOps) (a0 : Nat) : Nat :=
  M.nar a0
def r_spec_l01Narrow (M : FOps) (a0 : Nat) : Bool :=
  ((M.narOk a0) && true)
def S_spec_l01Narrow (M : FOps) : FSpec := mkSpec (.cons (.one (.fl .f64)) .nil) (.cons (.one (.fl .f32)) .nil) (fun x => r_spec_l01Narrow M x.1) (fun x => F_spec_l01Narrow (p_spec_l01Narrow M x.1))

def F_spec_l01Sqrt (r : Nat) : AS.Ty (.cons (.one (.fl .f32)) .nil) × List CS := ((r, ()), [])
def p_spec_l01Sqrt (M : FOps) (a0 : Nat) : Nat :=
  p_spec_l01Narrow M (p_math_Sqrt M (M.wid a0))
def r_spec_l01Sqrt (M : FOps) (a0 : Nat) : Bool :=
  ((true && true && r_spec_l01Narrow M (p_math_Sqrt M (M.wid a0))) && true)
def S_spec_l01Sqrt (M : FOps) : FSpec := mkSpec (.cons (.one (.fl .f32)) .nil) (.cons (.one (.fl .f32)) .nil) (fun _ => true) (fun x => F_spec_l01Sqrt (p_spec_l01Sqrt M x.1))

def F_impl_within (r : Bool) : AS.Ty (.cons (.one .bool) .nil) × List CS := ((r, ()), [])
def p_impl_within (M : FOps) (a0 : Int) (a1 : Int) (a2 : Int) : Bool :=
  (bif decide (a1 ≤ a0) then decide (a0 ≤ a2) else false)
def S_impl_within (M : FOps) : FSpec := mkSpec (.cons (.one (.int .i64)) (.cons (.one (.int .i64)) (.cons (.one (.int .i64)) .nil))) (.cons (.one .bool) .nil) (fun _ => true) (fun x => F_impl_within (p_impl_within M x.1 x.2.1 x.2.2.1))

end
end Go.Dv


/- Bounds of the numbers that the sine and the angle give; that what is narrowed fits. No program is in sight. -/
set_option linter.unusedVariables false
namespace Go.Dv
open Go.Cv
open Ieee

/-! ### the sine -/

/-! ### fractions -/
end Go.Dv

/- That what is narrowed fits (part 1). -/
namespace Go.Dv
open Go.Cv
open Ieee

theorem sqrt_fits (a : Nat) : R.narOk (R.sqrt (R.wid a)) = true := by
  rcases nm_dec .f32 a with ⟨s, m, e, hr⟩ | h
  · obtain ⟨m1, e1, hx, hv, b1, b2, b3⟩ := wid_num hr
    have hb : mg m1 e1 ≤ p2 (2 * 64) := by
      rw [hv, p2_mg]
      refine Rat.le_trans (mg_le.2 (Nat.le_of_lt b1)) ?_
      refine Rat.le_trans (mg_mono b3) ?_
      rw [mg_shift (show (104 : Int) ≤ 2 * 64 by decide) (m := 1)]
      exact mg_le.2 (by decide)
    by_cases h0 : 0 ≤ fv .f64 (R.wid a)
    · have hE : fv .f64 (R.wid a) ≤ p2 (2 * 64) := by
        have g1 := mg_nonneg m1 e1
        unfold fv; rw [hx]
        cases s <;> simp only [vd_true, vd_false] <;> grind
      obtain ⟨c1, c2, c3⟩ := sqrt_nm (a := R.wid a) ⟨_, _, _, hx⟩ h0 hE (by decide) (by decide)
      refine narOk_bd fun _ => ?_
      have := p2_mono (show (64 : Int) ≤ 127 by decide)
      constructor <;> grind
    · have hs : s = true := by
        cases s
        · exfalso; apply h0; unfold fv; rw [hx]; exact mg_nonneg _ _
        · rfl
      subst hs
      have hm : m1 ≠ 0 := by
        intro hm; apply h0; unfold fv; rw [hx, hm, vd_true, mg_zero]; decide
      have : R.sqrt (R.wid a) = nanOf .f64 := by
        show (FloatKind.f64.format.sqrt (R.wid a)).getD (nanOf .f64) = _
        unfold Format.sqrt
        rw [hx]
        simp [Datum.root, hm]
      rw [this]; decide
  · rcases not_nm h with h | ⟨s, h⟩
    · rw [wid_nan h]; decide
    · have hi := wid_inf h
      cases s
      · have : R.sqrt (R.wid a) = FloatKind.f64.format.write (.infinity false) := by
          show (FloatKind.f64.format.sqrt (R.wid a)).getD (nanOf .f64) = _
          unfold Format.sqrt
          rw [hi]; rfl
        rw [this]; decide
      · have : R.sqrt (R.wid a) = nanOf .f64 := by
          show (FloatKind.f64.format.sqrt (R.wid a)).getD (nanOf .f64) = _
          unfold Format.sqrt
          rw [hi]; rfl
        rw [this]; decide

theorem rr_spec_l01Sqrt (a : Nat) : r_spec_l01Sqrt R a = true := by
  unfold r_spec_l01Sqrt r_spec_l01Narrow p_math_Sqrt; rw [sqrt_fits]; rfl
end Go.Dv
