/- The operations on floats as plain functions on canonical words. -/
import Derived.Test.YtmhmedbhngmmpaaCvC
namespace Go.Cv

/-- the operations on floats, as variables: so that nothing looks into them -/
structure FOps where
  bin : BinOp → FloatKind → Nat → Nat → Nat
  cmp : BinOp → FloatKind → Nat → Nat → Bool
  neg : FloatKind → Nat → Nat
  wid : Nat → Nat
  nar : Nat → Nat
  narOk : Nat → Bool
  ofi : FloatKind → Int → Nat
  toi : FloatKind → Nat → IntKind → Int
  toiOk : FloatKind → Nat → IntKind → Bool
  abs : Nat → Nat
  floor : Nat → Nat
  trunc : Nat → Nat
  sqrt : Nat → Nat

/-- an integer's float -/
def fofi (k : FloatKind) (n : Int) : Nat := cn k (floatOfInt k n)
def fwid (n : Nat) : Nat := (fconv .f32 n .f64).getD 0
def fnar (n : Nat) : Nat := (fconv .f64 n .f32).getD 0
def fnarOk (n : Nat) : Bool := (fconv .f64 n .f32).isSome
def ftoiV (s : FloatKind) (n : Nat) (k : IntKind) : Int := (ftoi s n k).getD 0
def ftoiOk (s : FloatKind) (n : Nat) (k : IntKind) : Bool := (ftoi s n k).isSome

def fabs (n : Nat) : Nat := if isNan .f64 n then nanOf .f64 else n % 2 ^ 63
/-- the true ones -/
def R : FOps := { bin := fbin, cmp := fun op k a b => (fcmp op k a b).getD false, neg := fneg, wid := fwid, nar := fnar, narOk := fnarOk, ofi := fofi, toi := ftoiV, toiOk := ftoiOk, abs := fabs, floor := ffloor .down, trunc := ffloor .zero, sqrt := fsqrt }
end Go.Cv
