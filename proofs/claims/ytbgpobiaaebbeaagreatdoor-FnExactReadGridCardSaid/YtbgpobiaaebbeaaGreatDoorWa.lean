/- Sine and angle as plain functions: what the program's and the reference's texts compute, step by step. -/
/- That what is narrowed fits (part 2); sine and angle of the program are those of the reference. -/
/- Lw, Lx: merged by merge.py. -/
/- Fz, Gk, Gw, Gx: merged by merge.py. -/
/- Printed by gen2.py. -/
import Derived.Test.YtbgpobiaaebbeaaGreatDoorFv
import Derived.Test.YtbgpobiaaebbeaaGreatDoorQa

namespace Go.Dv
open Go.Cv
noncomputable section

/-! ### angles -/

variable {β : Type}
/-- whether all of a list are finite -/
def finsB (M : FOps) (l : List Nat) : Bool := l.all fun x => p_impl_IsFinite M x
def S_impl_areFinite (M : FOps) : FSpec := mkSpec (.cons (.one (.ls (.fl .f32))) .nil) (.cons (.one .bool) .nil) (fun x => decide (x.1.length < 2 ^ 62)) (fun x => ((finsB M x.1, ()), []))

end
end Go.Dv


namespace Go.Dv
open Go.Cv
open Ieee

theorem neq_not (k : FloatKind) (a b : Nat) : R.cmp .neq k a b = !R.cmp .eql k a b := rfl

theorem fin_impl (a : Nat) : p_impl_isFinite R a = decide (Nm .f64 a) := self_sub .f64 a
theorem fin_spec (a : Nat) : p_spec_l01Finite R a = decide (Nm .f32 a) := self_sub .f32 a
theorem fin_wide (a : Nat) : p_impl_IsFinite R a = decide (Nm .f32 a) := by
  unfold p_impl_IsFinite
  rw [fin_impl]
  rcases nm_dec .f32 a with h | h
  · have := (wid_nm h).1; simp [h, this]
  · have := wid_not_nm h; simp [h, this]
theorem fin_same (a : Nat) : p_impl_IsFinite R a = p_spec_l01Finite R a := by rw [fin_wide, fin_spec]

/-! ### the sine -/

/-! ### the angle -/

end Go.Dv


/- The program's plain functions are the reference's. No program is in sight. -/
namespace Go.Dv
open Go.Cv
open Ieee

/-! ### what is compared -/
theorem sameFloat_refl (x : Nat) : p_laws_sameFloat R x x = true := by
  unfold p_laws_sameFloat
  simp only [neq_not]
  cases h : R.cmp .eql .f64 x x
  · rfl
  · cases R.cmp .eql .f64 x 0
    · simp
    · simp
end Go.Dv

/- The program's plain functions are the reference's (part 2). No program is in sight. -/
namespace Go.Dv
open Go.Cv
open Ieee

end Go.Dv


/- Words that say the same number are the same; the size of a number. -/
namespace Go.Dv
open Go.Cv
open Ieee

end Go.Dv

/- Bounds of both kinds of floats; what is the same number in other digits; halves. -/
namespace Go.Dv
open Go.Cv
open Ieee

/-! ### products in both orders -/
/-! ### the same number in other digits -/
/-! ### a difference against a number of few digits -/
end Go.Dv

/- Rounding keeps the order against every word; the cosine is not small between -0.24 and 0.24; an east that is wrapped is one. -/
namespace Go.Dv
open Go.Cv
open Ieee

/-- the word n is v, rounded: no word lies between -/
structure Rc (k : FloatKind) (v : Rat) (n : Nat) : Prop where
  le : ∀ c, Nm k c → Nm k n → v ≤ fv k c → fv k n ≤ fv k c
  ge : ∀ c, Nm k c → Nm k n → fv k c ≤ v → fv k c ≤ fv k n

/-! ### the cosine from below -/
end Go.Dv

/- An east that is wrapped lies between -0.5 and 0.5. -/
namespace Go.Dv
open Go.Cv
open Ieee

end Go.Dv


set_option linter.unusedVariables false
set_option linter.unusedSimpArgs false

-- GENERATED BELOW (gen.py)
namespace Go.Dv
open Go.Cv
noncomputable section
/-- impl.areFinite, loop 0: (.tv 5 true (.ls (.fl .f32))) (.tv 6 false (.int .i64)) (.tv 7 false (.int .i64)) (.tv 2 false .bool) -/
def st_impl_areFinite_w_0 (M : FOps) (v0 : (List Nat)) (v1 : Int) (v2 : Int) (v3 : Bool) : Option (((List Nat) × Int × Int × Bool × Unit) ⊕ ((Bool × Unit) ⊕ (Bool × Unit))) :=
  (brT (decide (v2 < v1)) (brT (decide (0 ≤ v2) && decide (v2 < (↑v0.length : Int))) (brT (!p_impl_IsFinite M (v0.getD v2.toNat 0)) (some (.inr (.inl (false, ())))) (some (.inl (v0, (v1, (IntKind.i64.wrap (v2 + 1), (v3, ()))))))) none) (some (.inr (.inr (v3, ())))))
def W_impl_areFinite_w_0 (M : FOps) : ((List Nat) × Int × Int × Bool × Unit) → Option ((Bool × Unit) ⊕ (Bool × Unit)) := runW (fun x => st_impl_areFinite_w_0 M x.1 x.2.1 x.2.2.1 x.2.2.2.1)
def L_impl_areFinite_w_0 (M : FOps) : LSpec := mkL (.cons (.tv 5 true (.ls (.fl .f32))) (.cons (.tv 6 false (.int .i64)) (.cons (.tv 7 false (.int .i64)) (.cons (.tv 2 false .bool) .nil)))) [(.ret, (.cons (.tv 2 false .bool) .nil)), ((.exit 0), (.cons (.tv 2 false .bool) .nil))] 0 0 (W_impl_areFinite_w_0 M)
def c0_impl_areFinite_w (M : FOps) (a0 : (List Nat)) : Option (Bool × Unit ⊕ Bool × Unit) := W_impl_areFinite_w_0 M (a0, (↑a0.length : Int), 0, false, ())
def F_impl_areFinite_w (r : Bool) : AS.Ty (.cons (.one .bool) .nil) × List CS := ((r, ()), [])
def p_impl_areFinite_w (M : FOps) (a0 : (List Nat)) : Bool :=
  (bif isL ((c0_impl_areFinite_w M a0).getD (Sum.inl (false, ()))) then (getL (false, ()) ((c0_impl_areFinite_w M a0).getD (Sum.inl (false, ())))).fst else true)
def r_impl_areFinite_w (M : FOps) (a0 : (List Nat)) : Bool :=
  (((c0_impl_areFinite_w M a0).isSome) && true)
def S_impl_areFinite_w (M : FOps) : FSpec := mkSpec (.cons (.one (.ls (.fl .f32))) .nil) (.cons (.one .bool) .nil) (fun x => r_impl_areFinite_w M x.1) (fun x => F_impl_areFinite_w (p_impl_areFinite_w M x.1))

end
end Go.Dv
