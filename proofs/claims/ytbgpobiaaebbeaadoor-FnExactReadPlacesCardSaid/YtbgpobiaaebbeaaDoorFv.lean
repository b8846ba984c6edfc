/- Fv, Fw, Fx, Fy: merged by merge.py. -/
import Derived.Test.YtbgpobiaaebbeaaDoorCvA

/- What the words of floats are worth, as fractions; rounding keeps the order. No program is in sight. -/
namespace Go.Cv
open Ieee

/-- a power of two -/
def p2 (e : Int) : Rat := (2 : Rat) ^ e

/-- what a number with digits m at place e is worth -/
def mg (m : Nat) (e : Int) : Rat := (m : Rat) * p2 e
/-! ### cutting digits -/

/-! ### reading a rung -/

/-! ### rounding -/

end Go.Cv

/- What the operations on floats give, by what their operands are worth. No program is in sight. -/
set_option linter.unusedSimpArgs false
namespace Go.Cv
open Ieee

/-- what a datum is worth -/
def vd : Datum → Rat
  | .number s m e => if s then -(mg m e) else mg m e
  | _ => 0
/-- is a word a number -/
def Nm (k : FloatKind) (n : Nat) : Prop := ∃ s m e, k.format.read n = .number s m e
def fv (k : FloatKind) (n : Nat) : Rat := vd (k.format.read n)
def loP : FloatKind → Int
  | .f32 => -149
  | .f64 => -1074
def hiP : FloatKind → Int
  | .f32 => 127
  | .f64 => 1023

/-- the word n is a value v, rounded -/
structure Rd (k : FloatKind) (v : Rat) (n : Nat) : Prop where
  le : ∀ E, loP k ≤ E → E ≤ hiP k → v ≤ p2 E → -v ≤ p2 E → Nm k n ∧ fv k n ≤ p2 E ∧ -(fv k n) ≤ p2 E
  ge : ∀ E, loP k ≤ E → Nm k n → p2 E ≤ v → p2 E ≤ fv k n
  pos : 0 ≤ v → Nm k n → 0 ≤ fv k n
  neg : v ≤ 0 → Nm k n → fv k n ≤ 0

/-! ### sums and products -/

/-! ### order -/

end Go.Cv

/- Quotients, roots, whole parts and other widths, by what their operands are worth. No program is in sight. -/
namespace Go.Cv
open Ieee

/-! ### roots -/

end Go.Cv

/- Whole parts, sizes and other widths, by what their operands are worth. No program is in sight. -/
namespace Go.Cv
open Ieee

/-! ### sizes -/
/-! ### exact ones -/
/-! ### wider -/
instance (k : FloatKind) (a : Nat) : Decidable (Nm k a) :=
  match h : k.format.read a with
  | .number s m e => .isTrue ⟨s, m, e, h⟩
  | .infinity s => .isFalse (by intro ⟨_, _, _, h'⟩; rw [h] at h'; cases h')
  | .nan s t => .isFalse (by intro ⟨_, _, _, h'⟩; rw [h] at h'; cases h')
/-! ### narrower -/
/-! ### whole parts -/
end Go.Cv
