/- Printed by gen2.py. -/
import Derived.Test.YtjohfkfpfjdceaaGreatDoorWlc

set_option linter.unusedVariables false
set_option linter.unusedSimpArgs false

-- GENERATED BELOW (gen.py)
namespace Go.Dv
open Go.Cv
noncomputable section
def F_impl_parts (r : Nat × Nat) : AS.Ty (.cons (.one (.fl .f64)) (.cons (.one (.fl .f64)) .nil)) × List CS := ((r.1, (r.2, ())), [])
def p_impl_parts (M : FOps) (a0_0 : Nat) (a0_1 : Nat) : Nat × Nat :=
  (M.wid a0_0, M.wid a0_1)
def S_impl_parts (M : FOps) : FSpec := mkSpec (.cons (.one (.cx .f32)) .nil) (.cons (.one (.fl .f64)) (.cons (.one (.fl .f64)) .nil)) (fun _ => true) (fun x => F_impl_parts (p_impl_parts M x.1.1 x.1.2))

def c0_impl_power (M : FOps) (a0_0 : Nat) (a0_1 : Nat) : Nat × Nat := p_impl_parts M a0_0 a0_1
def F_impl_power (r : Nat) : AS.Ty (.cons (.one (.fl .f64)) .nil) × List CS := ((r, ()), [])
def p_impl_power (M : FOps) (a0_0 : Nat) (a0_1 : Nat) : Nat :=
  M.bin BinOp.add FloatKind.f64 (M.bin BinOp.mul FloatKind.f64 (c0_impl_power M a0_0 a0_1).fst (c0_impl_power M a0_0 a0_1).fst) (M.bin BinOp.mul FloatKind.f64 (c0_impl_power M a0_0 a0_1).snd (c0_impl_power M a0_0 a0_1).snd)
def S_impl_power (M : FOps) : FSpec := mkSpec (.cons (.one (.cx .f32)) .nil) (.cons (.one (.fl .f64)) .nil) (fun _ => true) (fun x => F_impl_power (p_impl_power M x.1.1 x.1.2))

def c0_impl_product (M : FOps) (a0_0 : Nat) (a0_1 : Nat) (a1_0 : Nat) (a1_1 : Nat) : Nat × Nat := p_impl_parts M a0_0 a0_1
def c1_impl_product (M : FOps) (a0_0 : Nat) (a0_1 : Nat) (a1_0 : Nat) (a1_1 : Nat) : Nat × Nat := p_impl_parts M a1_0 a1_1
def F_impl_product (r : Nat × Nat) : AS.Ty (.cons (.one (.fl .f64)) (.cons (.one (.fl .f64)) .nil)) × List CS := ((r.1, (r.2, ())), [])
def p_impl_product (M : FOps) (a0_0 : Nat) (a0_1 : Nat) (a1_0 : Nat) (a1_1 : Nat) : Nat × Nat :=
  (M.bin BinOp.sub FloatKind.f64 (M.bin BinOp.mul FloatKind.f64 (c0_impl_product M a0_0 a0_1 a1_0 a1_1).fst (c1_impl_product M a0_0 a0_1 a1_0 a1_1).fst) (M.bin BinOp.mul FloatKind.f64 (c0_impl_product M a0_0 a0_1 a1_0 a1_1).snd (c1_impl_product M a0_0 a0_1 a1_0 a1_1).snd), M.bin BinOp.add FloatKind.f64 (M.bin BinOp.mul FloatKind.f64 (c0_impl_product M a0_0 a0_1 a1_0 a1_1).fst (c1_impl_product M a0_0 a0_1 a1_0 a1_1).snd) (M.bin BinOp.mul FloatKind.f64 (c0_impl_product M a0_0 a0_1 a1_0 a1_1).snd (c1_impl_product M a0_0 a0_1 a1_0 a1_1).fst))
def S_impl_product (M : FOps) : FSpec := mkSpec (.cons (.one (.cx .f32)) (.cons (.one (.cx .f32)) .nil)) (.cons (.one (.fl .f64)) (.cons (.one (.fl .f64)) .nil)) (fun _ => true) (fun x => F_impl_product (p_impl_product M x.1.1 x.1.2 x.2.1.1 x.2.1.2))

def c0_impl_MulComplex (M : FOps) (a0_0 : Nat) (a0_1 : Nat) (a1_0 : Nat) (a1_1 : Nat) : Nat × Nat := p_impl_product M a0_0 a0_1 a1_0 a1_1
def F_impl_MulComplex (r : Nat × Nat) : AS.Ty (.cons (.one (.cx .f32)) .nil) × List CS := (((r.1, r.2), ()), [])
def p_impl_MulComplex (M : FOps) (a0_0 : Nat) (a0_1 : Nat) (a1_0 : Nat) (a1_1 : Nat) : Nat × Nat :=
  (M.nar (c0_impl_MulComplex M a0_0 a0_1 a1_0 a1_1).fst, M.nar (c0_impl_MulComplex M a0_0 a0_1 a1_0 a1_1).snd)
def r_impl_MulComplex (M : FOps) (a0_0 : Nat) (a0_1 : Nat) (a1_0 : Nat) (a1_1 : Nat) : Bool :=
  ((M.narOk (c0_impl_MulComplex M a0_0 a0_1 a1_0 a1_1).fst) && ((M.narOk (c0_impl_MulComplex M a0_0 a0_1 a1_0 a1_1).snd) && true))
def S_impl_MulComplex (M : FOps) : FSpec := mkSpec (.cons (.one (.cx .f32)) (.cons (.one (.cx .f32)) .nil)) (.cons (.one (.cx .f32)) .nil) (fun x => r_impl_MulComplex M x.1.1 x.1.2 x.2.1.1 x.2.1.2) (fun x => F_impl_MulComplex (p_impl_MulComplex M x.1.1 x.1.2 x.2.1.1 x.2.1.2))

def F_impl_ConjugateOf (r : Nat × Nat) : AS.Ty (.cons (.one (.cx .f32)) .nil) × List CS := (((r.1, r.2), ()), [])
def p_impl_ConjugateOf (M : FOps) (a0_0 : Nat) (a0_1 : Nat) : Nat × Nat :=
  (a0_0, M.neg FloatKind.f32 a0_1)
def S_impl_ConjugateOf (M : FOps) : FSpec := mkSpec (.cons (.one (.cx .f32)) .nil) (.cons (.one (.cx .f32)) .nil) (fun _ => true) (fun x => F_impl_ConjugateOf (p_impl_ConjugateOf M x.1.1 x.1.2))

def c0_impl_LongOf (M : FOps) (a0_0 : Nat) (a0_1 : Nat) : Nat := p_math_Sqrt M (p_impl_power M a0_0 a0_1)
def F_impl_LongOf (r : Nat) : AS.Ty (.cons (.one (.fl .f32)) .nil) × List CS := ((r, ()), [])
def p_impl_LongOf (M : FOps) (a0_0 : Nat) (a0_1 : Nat) : Nat :=
  M.nar (c0_impl_LongOf M a0_0 a0_1)
def r_impl_LongOf (M : FOps) (a0_0 : Nat) (a0_1 : Nat) : Bool :=
  ((M.narOk (c0_impl_LongOf M a0_0 a0_1)) && true)
def S_impl_LongOf (M : FOps) : FSpec := mkSpec (.cons (.one (.cx .f32)) .nil) (.cons (.one (.fl .f32)) .nil) (fun x => r_impl_LongOf M x.1.1 x.1.2) (fun x => F_impl_LongOf (p_impl_LongOf M x.1.1 x.1.2))

/-- spec.B10Whole, loop 0: (.tv 1 false (.int .i64)) (.tv 2 false (.int .i64)) (.te 7 0 3) (.ax 0 (.pair (.ls (.int .u8)) (.pair (.int .i64) (.int .u64)))) (.to 8 1 (.cx .f32)) (.tn 6) -/
def st_spec_B10Whole_0 (M : FOps) (v0 : Int) (v1 : Int) (v2 : (List Int)) (v3 : Int) (v4 : Int) (v5 : (List (Nat × Nat))) : Option ((Int × Int × Unit × ((List Int) × (Int × Int)) × (List (Nat × Nat)) × Unit × Unit) ⊕ ((List (Nat × Nat)) × Unit × Unit)) :=
  (brT (decide (v0 > 0)) (brT (r_spec_l00Src_pick M v2 v3 v4 (IntKind.i64.wrap (IntKind.i64.wrap (2 * v1) + 1))) (brT (r_spec_l00Src_pick M (p_spec_l00Src_pick M v2 v3 v4 (IntKind.i64.wrap (IntKind.i64.wrap (2 * v1) + 1))).snd.fst (p_spec_l00Src_pick M v2 v3 v4 (IntKind.i64.wrap (IntKind.i64.wrap (2 * v1) + 1))).snd.snd.fst (p_spec_l00Src_pick M v2 v3 v4 (IntKind.i64.wrap (IntKind.i64.wrap (2 * v1) + 1))).snd.snd.snd (IntKind.i64.wrap (IntKind.i64.wrap (2 * v1) + 1))) (brT (v5.length.beq v5.length && (v5.length + [(M.ofi FloatKind.f32 (IntKind.i64.wrap ((p_spec_l00Src_pick M v2 v3 v4 (IntKind.i64.wrap (IntKind.i64.wrap (2 * v1) + 1))).fst - v1)), M.ofi FloatKind.f32 (IntKind.i64.wrap ((p_spec_l00Src_pick M (p_spec_l00Src_pick M v2 v3 v4 (IntKind.i64.wrap (IntKind.i64.wrap (2 * v1) + 1))).snd.fst (p_spec_l00Src_pick M v2 v3 v4 (IntKind.i64.wrap (IntKind.i64.wrap (2 * v1) + 1))).snd.snd.fst (p_spec_l00Src_pick M v2 v3 v4 (IntKind.i64.wrap (IntKind.i64.wrap (2 * v1) + 1))).snd.snd.snd (IntKind.i64.wrap (IntKind.i64.wrap (2 * v1) + 1))).fst - v1)))].length).ble 1073741824) (brT ((v5 ++ [(M.ofi FloatKind.f32 (IntKind.i64.wrap ((p_spec_l00Src_pick M v2 v3 v4 (IntKind.i64.wrap (IntKind.i64.wrap (2 * v1) + 1))).fst - v1)), M.ofi FloatKind.f32 (IntKind.i64.wrap ((p_spec_l00Src_pick M (p_spec_l00Src_pick M v2 v3 v4 (IntKind.i64.wrap (IntKind.i64.wrap (2 * v1) + 1))).snd.fst (p_spec_l00Src_pick M v2 v3 v4 (IntKind.i64.wrap (IntKind.i64.wrap (2 * v1) + 1))).snd.snd.fst (p_spec_l00Src_pick M v2 v3 v4 (IntKind.i64.wrap (IntKind.i64.wrap (2 * v1) + 1))).snd.snd.snd (IntKind.i64.wrap (IntKind.i64.wrap (2 * v1) + 1))).fst - v1)))]).length.beq (v5 ++ [(M.ofi FloatKind.f32 (IntKind.i64.wrap ((p_spec_l00Src_pick M v2 v3 v4 (IntKind.i64.wrap (IntKind.i64.wrap (2 * v1) + 1))).fst - v1)), M.ofi FloatKind.f32 (IntKind.i64.wrap ((p_spec_l00Src_pick M (p_spec_l00Src_pick M v2 v3 v4 (IntKind.i64.wrap (IntKind.i64.wrap (2 * v1) + 1))).snd.fst (p_spec_l00Src_pick M v2 v3 v4 (IntKind.i64.wrap (IntKind.i64.wrap (2 * v1) + 1))).snd.snd.fst (p_spec_l00Src_pick M v2 v3 v4 (IntKind.i64.wrap (IntKind.i64.wrap (2 * v1) + 1))).snd.snd.snd (IntKind.i64.wrap (IntKind.i64.wrap (2 * v1) + 1))).fst - v1)))]).length && true) (some (.inl (IntKind.i64.wrap (v0 - 1), (v1, ((), (((p_spec_l00Src_pick M (p_spec_l00Src_pick M v2 v3 v4 (IntKind.i64.wrap (IntKind.i64.wrap (2 * v1) + 1))).snd.fst (p_spec_l00Src_pick M v2 v3 v4 (IntKind.i64.wrap (IntKind.i64.wrap (2 * v1) + 1))).snd.snd.fst (p_spec_l00Src_pick M v2 v3 v4 (IntKind.i64.wrap (IntKind.i64.wrap (2 * v1) + 1))).snd.snd.snd (IntKind.i64.wrap (IntKind.i64.wrap (2 * v1) + 1))).snd.fst, ((p_spec_l00Src_pick M (p_spec_l00Src_pick M v2 v3 v4 (IntKind.i64.wrap (IntKind.i64.wrap (2 * v1) + 1))).snd.fst (p_spec_l00Src_pick M v2 v3 v4 (IntKind.i64.wrap (IntKind.i64.wrap (2 * v1) + 1))).snd.snd.fst (p_spec_l00Src_pick M v2 v3 v4 (IntKind.i64.wrap (IntKind.i64.wrap (2 * v1) + 1))).snd.snd.snd (IntKind.i64.wrap (IntKind.i64.wrap (2 * v1) + 1))).snd.snd.fst, (p_spec_l00Src_pick M (p_spec_l00Src_pick M v2 v3 v4 (IntKind.i64.wrap (IntKind.i64.wrap (2 * v1) + 1))).snd.fst (p_spec_l00Src_pick M v2 v3 v4 (IntKind.i64.wrap (IntKind.i64.wrap (2 * v1) + 1))).snd.snd.fst (p_spec_l00Src_pick M v2 v3 v4 (IntKind.i64.wrap (IntKind.i64.wrap (2 * v1) + 1))).snd.snd.snd (IntKind.i64.wrap (IntKind.i64.wrap (2 * v1) + 1))).snd.snd.snd)), (v5 ++ [(M.ofi FloatKind.f32 (IntKind.i64.wrap ((p_spec_l00Src_pick M v2 v3 v4 (IntKind.i64.wrap (IntKind.i64.wrap (2 * v1) + 1))).fst - v1)), M.ofi FloatKind.f32 (IntKind.i64.wrap ((p_spec_l00Src_pick M (p_spec_l00Src_pick M v2 v3 v4 (IntKind.i64.wrap (IntKind.i64.wrap (2 * v1) + 1))).snd.fst (p_spec_l00Src_pick M v2 v3 v4 (IntKind.i64.wrap (IntKind.i64.wrap (2 * v1) + 1))).snd.snd.fst (p_spec_l00Src_pick M v2 v3 v4 (IntKind.i64.wrap (IntKind.i64.wrap (2 * v1) + 1))).snd.snd.snd (IntKind.i64.wrap (IntKind.i64.wrap (2 * v1) + 1))).fst - v1)))], ((), ())))))))) none) none) none) none) (brT (v5.length.beq v5.length && true) (some (.inr (v5, ((), ())))) none))
def W_spec_B10Whole_0 (M : FOps) : (Int × Int × Unit × ((List Int) × (Int × Int)) × (List (Nat × Nat)) × Unit × Unit) → Option ((List (Nat × Nat)) × Unit × Unit) := runW (fun x => st_spec_B10Whole_0 M x.1 x.2.1 x.2.2.2.1.1 x.2.2.2.1.2.1 x.2.2.2.1.2.2 x.2.2.2.2.1)
def L_spec_B10Whole_0 (M : FOps) : LSpec := mkL (.cons (.tv 1 false (.int .i64)) (.cons (.tv 2 false (.int .i64)) (.cons (.te 7 0 3) (.cons (.ax 0 (.pair (.ls (.int .u8)) (.pair (.int .i64) (.int .u64)))) (.cons (.to 8 1 (.cx .f32)) (.cons (.tn 6) .nil)))))) [((.exit 0), (.cons (.to 8 1 (.cx .f32)) (.cons (.tn 6) .nil)))] 2 0 (W_spec_B10Whole_0 M)
def c0_spec_B10Whole (M : FOps) (a0 : (List Int)) (a1 : Int) (a2 : Int) : List Int × Int × Int := p_spec_l00From M a0
def c1_spec_B10Whole (M : FOps) (a0 : (List Int)) (a1 : Int) (a2 : Int) : Option (List (Nat × Nat) × Unit × Unit) := W_spec_B10Whole_0 M (a1, a2, (), ((c0_spec_B10Whole M a0 a1 a2).fst, (c0_spec_B10Whole M a0 a1 a2).snd.fst, (c0_spec_B10Whole M a0 a1 a2).snd.snd), [], (), ())
def F_spec_B10Whole (r : (List (Nat × Nat))) : AS.Ty (.cons (.one (.ls (.cx .f32))) .nil) × List CS := ((r, ()), [])
def p_spec_B10Whole (M : FOps) (a0 : (List Int)) (a1 : Int) (a2 : Int) : (List (Nat × Nat)) :=
  ((c1_spec_B10Whole M a0 a1 a2).getD ([], (), ())).fst
def r_spec_B10Whole (M : FOps) (a0 : (List Int)) (a1 : Int) (a2 : Int) : Bool :=
  (((c1_spec_B10Whole M a0 a1 a2).isSome) && (((List.length ((c1_spec_B10Whole M a0 a1 a2).getD ([], (), ())).fst).beq (List.length ((c1_spec_B10Whole M a0 a1 a2).getD ([], (), ())).fst) && true) && true))
def S_spec_B10Whole (M : FOps) : FSpec := mkSpec (.cons (.fz (.ls (.int .u8))) (.cons (.one (.int .i64)) (.cons (.one (.int .i64)) .nil))) (.cons (.one (.ls (.cx .f32))) .nil) (fun x => r_spec_B10Whole M x.1 x.2.1 x.2.2.1) (fun x => F_spec_B10Whole (p_spec_B10Whole M x.1 x.2.1 x.2.2.1))

def c0_spec_l01DrawComplex (M : FOps) (a0_0 : (List Int)) (a0_1 : Int) (a0_2 : Int) : Nat × List Int × Int × Int := p_spec_l01DrawFloat M a0_0 a0_1 a0_2
def c1_spec_l01DrawComplex (M : FOps) (a0_0 : (List Int)) (a0_1 : Int) (a0_2 : Int) : Nat × List Int × Int × Int := p_spec_l01DrawFloat M (c0_spec_l01DrawComplex M a0_0 a0_1 a0_2).snd.fst (c0_spec_l01DrawComplex M a0_0 a0_1 a0_2).snd.snd.fst (c0_spec_l01DrawComplex M a0_0 a0_1 a0_2).snd.snd.snd
def F_spec_l01DrawComplex (r : Nat × Nat × (List Int) × Int × Int) : AS.Ty (.cons (.one (.cx .f32)) .nil) × List CS := (((r.1, r.2.1), ()), [.arr (.pair (.ls (.int .u8)) (.pair (.int .i64) (.int .u64))) [(r.2.2.1, (r.2.2.2.1, r.2.2.2.2))]])
def p_spec_l01DrawComplex (M : FOps) (a0_0 : (List Int)) (a0_1 : Int) (a0_2 : Int) : Nat × Nat × (List Int) × Int × Int :=
  ((c0_spec_l01DrawComplex M a0_0 a0_1 a0_2).fst, (c1_spec_l01DrawComplex M a0_0 a0_1 a0_2).fst, (c1_spec_l01DrawComplex M a0_0 a0_1 a0_2).snd.fst, (c1_spec_l01DrawComplex M a0_0 a0_1 a0_2).snd.snd.fst, (c1_spec_l01DrawComplex M a0_0 a0_1 a0_2).snd.snd.snd)
def r_spec_l01DrawComplex (M : FOps) (a0_0 : (List Int)) (a0_1 : Int) (a0_2 : Int) : Bool :=
  ((r_spec_l01DrawFloat M a0_0 a0_1 a0_2) && ((r_spec_l01DrawFloat M (c0_spec_l01DrawComplex M a0_0 a0_1 a0_2).snd.fst (c0_spec_l01DrawComplex M a0_0 a0_1 a0_2).snd.snd.fst (c0_spec_l01DrawComplex M a0_0 a0_1 a0_2).snd.snd.snd) && true))
def S_spec_l01DrawComplex (M : FOps) : FSpec := mkSpec (.cons (.pe (.pair (.ls (.int .u8)) (.pair (.int .i64) (.int .u64)))) .nil) (.cons (.one (.cx .f32)) .nil) (fun x => r_spec_l01DrawComplex M x.1.1 x.1.2.1 x.1.2.2) (fun x => F_spec_l01DrawComplex (p_spec_l01DrawComplex M x.1.1 x.1.2.1 x.1.2.2))

def c0_spec_l01DrawFine (M : FOps) (a0_0 : (List Int)) (a0_1 : Int) (a0_2 : Int) : Int × List Int × Int × Int := p_spec_l00Src_pick M a0_0 a0_1 a0_2 65
def c1_spec_l01DrawFine (M : FOps) (a0_0 : (List Int)) (a0_1 : Int) (a0_2 : Int) : Int × List Int × Int × Int := p_spec_l00Src_pick M (c0_spec_l01DrawFine M a0_0 a0_1 a0_2).snd.fst (c0_spec_l01DrawFine M a0_0 a0_1 a0_2).snd.snd.fst (c0_spec_l01DrawFine M a0_0 a0_1 a0_2).snd.snd.snd 65
def F_spec_l01DrawFine (r : Nat × Nat × (List Int) × Int × Int) : AS.Ty (.cons (.one (.cx .f32)) .nil) × List CS := (((r.1, r.2.1), ()), [.arr (.pair (.ls (.int .u8)) (.pair (.int .i64) (.int .u64))) [(r.2.2.1, (r.2.2.2.1, r.2.2.2.2))]])
def p_spec_l01DrawFine (M : FOps) (a0_0 : (List Int)) (a0_1 : Int) (a0_2 : Int) : Nat × Nat × (List Int) × Int × Int :=
  (M.bin BinOp.quo FloatKind.f32 (M.ofi FloatKind.f32 (IntKind.i64.wrap ((c0_spec_l01DrawFine M a0_0 a0_1 a0_2).fst - 32))) 1098907648, M.bin BinOp.quo FloatKind.f32 (M.ofi FloatKind.f32 (IntKind.i64.wrap ((c1_spec_l01DrawFine M a0_0 a0_1 a0_2).fst - 32))) 1098907648, (c1_spec_l01DrawFine M a0_0 a0_1 a0_2).snd.fst, (c1_spec_l01DrawFine M a0_0 a0_1 a0_2).snd.snd.fst, (c1_spec_l01DrawFine M a0_0 a0_1 a0_2).snd.snd.snd)
def r_spec_l01DrawFine (M : FOps) (a0_0 : (List Int)) (a0_1 : Int) (a0_2 : Int) : Bool :=
  ((r_spec_l00Src_pick M a0_0 a0_1 a0_2 65) && ((r_spec_l00Src_pick M (c0_spec_l01DrawFine M a0_0 a0_1 a0_2).snd.fst (c0_spec_l01DrawFine M a0_0 a0_1 a0_2).snd.snd.fst (c0_spec_l01DrawFine M a0_0 a0_1 a0_2).snd.snd.snd 65) && true))
def S_spec_l01DrawFine (M : FOps) : FSpec := mkSpec (.cons (.pe (.pair (.ls (.int .u8)) (.pair (.int .i64) (.int .u64)))) .nil) (.cons (.one (.cx .f32)) .nil) (fun x => r_spec_l01DrawFine M x.1.1 x.1.2.1 x.1.2.2) (fun x => F_spec_l01DrawFine (p_spec_l01DrawFine M x.1.1 x.1.2.1 x.1.2.2))

/-- spec.l01DrawComplexes, loop 0: (.te 0 0 3) (.ax 0 (.pair (.ls (.int .u8)) (.pair (.int .i64) (.int .u64)))) (.tv 1 false (.int .i64)) (.to 5 1 (.cx .f32)) (.tv 6 false .bool) (.tn 4) -/
def st_spec_l01DrawComplexes_0 (M : FOps) (v0 : (List Int)) (v1 : Int) (v2 : Int) (v3 : Int) (v4 : (List (Nat × Nat))) (v5 : Bool) : Option ((Unit × ((List Int) × (Int × Int)) × Int × (List (Nat × Nat)) × Bool × Unit × Unit) ⊕ ((List (Nat × Nat)) × Unit × ((List Int) × (Int × Int)) × Unit)) :=
  (brT (decide (v3 > 0)) (brT (v5) (brT (r_spec_l01DrawComplex M v0 v1 v2) (brT (v4.length.beq v4.length && (v4.length + [((p_spec_l01DrawComplex M v0 v1 v2).fst, (p_spec_l01DrawComplex M v0 v1 v2).snd.fst)].length).ble 1073741824) (brT ((v4 ++ [((p_spec_l01DrawComplex M v0 v1 v2).fst, (p_spec_l01DrawComplex M v0 v1 v2).snd.fst)]).length.beq (v4 ++ [((p_spec_l01DrawComplex M v0 v1 v2).fst, (p_spec_l01DrawComplex M v0 v1 v2).snd.fst)]).length && true) (some (.inl ((), (((p_spec_l01DrawComplex M v0 v1 v2).snd.snd.fst, ((p_spec_l01DrawComplex M v0 v1 v2).snd.snd.snd.fst, (p_spec_l01DrawComplex M v0 v1 v2).snd.snd.snd.snd)), (IntKind.i64.wrap (v3 - 1), (v4 ++ [((p_spec_l01DrawComplex M v0 v1 v2).fst, (p_spec_l01DrawComplex M v0 v1 v2).snd.fst)], (v5, ((), ())))))))) none) none) none) (brT (r_spec_l01DrawFine M v0 v1 v2) (brT (v4.length.beq v4.length && (v4.length + [((p_spec_l01DrawFine M v0 v1 v2).fst, (p_spec_l01DrawFine M v0 v1 v2).snd.fst)].length).ble 1073741824) (brT ((v4 ++ [((p_spec_l01DrawFine M v0 v1 v2).fst, (p_spec_l01DrawFine M v0 v1 v2).snd.fst)]).length.beq (v4 ++ [((p_spec_l01DrawFine M v0 v1 v2).fst, (p_spec_l01DrawFine M v0 v1 v2).snd.fst)]).length && true) (some (.inl ((), (((p_spec_l01DrawFine M v0 v1 v2).snd.snd.fst, ((p_spec_l01DrawFine M v0 v1 v2).snd.snd.snd.fst, (p_spec_l01DrawFine M v0 v1 v2).snd.snd.snd.snd)), (IntKind.i64.wrap (v3 - 1), (v4 ++ [((p_spec_l01DrawFine M v0 v1 v2).fst, (p_spec_l01DrawFine M v0 v1 v2).snd.fst)], (v5, ((), ())))))))) none) none) none)) (brT (v4.length.beq v4.length && true) (some (.inr (v4, ((), ((v0, (v1, v2)), ()))))) none))
def W_spec_l01DrawComplexes_0 (M : FOps) : (Unit × ((List Int) × (Int × Int)) × Int × (List (Nat × Nat)) × Bool × Unit × Unit) → Option ((List (Nat × Nat)) × Unit × ((List Int) × (Int × Int)) × Unit) := runW (fun x => st_spec_l01DrawComplexes_0 M x.2.1.1 x.2.1.2.1 x.2.1.2.2 x.2.2.1 x.2.2.2.1 x.2.2.2.2.1)
def L_spec_l01DrawComplexes_0 (M : FOps) : LSpec := mkL (.cons (.te 0 0 3) (.cons (.ax 0 (.pair (.ls (.int .u8)) (.pair (.int .i64) (.int .u64)))) (.cons (.tv 1 false (.int .i64)) (.cons (.to 5 1 (.cx .f32)) (.cons (.tv 6 false .bool) (.cons (.tn 4) .nil)))))) [((.exit 0), (.cons (.to 5 1 (.cx .f32)) (.cons (.tn 4) (.cons (.ax 0 (.pair (.ls (.int .u8)) (.pair (.int .i64) (.int .u64)))) .nil))))] 2 1 (W_spec_l01DrawComplexes_0 M)
def c0_spec_l01DrawComplexes (M : FOps) (a0_0 : (List Int)) (a0_1 : Int) (a0_2 : Int) (a1 : Int) : Bool × List Int × Int × Int := p_spec_l00Src_one M a0_0 a0_1 a0_2 5
def c1_spec_l01DrawComplexes (M : FOps) (a0_0 : (List Int)) (a0_1 : Int) (a0_2 : Int) (a1 : Int) : Option (List (Nat × Nat) × Unit × (List Int × Int × Int) × Unit) := W_spec_l01DrawComplexes_0 M ((), ((c0_spec_l01DrawComplexes M a0_0 a0_1 a0_2 a1).snd.fst, (c0_spec_l01DrawComplexes M a0_0 a0_1 a0_2 a1).snd.snd.fst, (c0_spec_l01DrawComplexes M a0_0 a0_1 a0_2 a1).snd.snd.snd), a1, [], (c0_spec_l01DrawComplexes M a0_0 a0_1 a0_2 a1).fst, (), ())
def F_spec_l01DrawComplexes (r : (List (Nat × Nat)) × (List Int) × Int × Int) : AS.Ty (.cons (.one (.ls (.cx .f32))) .nil) × List CS := ((r.1, ()), [.arr (.pair (.ls (.int .u8)) (.pair (.int .i64) (.int .u64))) [(r.2.1, (r.2.2.1, r.2.2.2))]])
def p_spec_l01DrawComplexes (M : FOps) (a0_0 : (List Int)) (a0_1 : Int) (a0_2 : Int) (a1 : Int) : (List (Nat × Nat)) × (List Int) × Int × Int :=
  (((c1_spec_l01DrawComplexes M a0_0 a0_1 a0_2 a1).getD ([], (), ([], 0, 0), ())).fst, ((c1_spec_l01DrawComplexes M a0_0 a0_1 a0_2 a1).getD ([], (), ([], 0, 0), ())).snd.snd.fst.fst, ((c1_spec_l01DrawComplexes M a0_0 a0_1 a0_2 a1).getD ([], (), ([], 0, 0), ())).snd.snd.fst.snd.fst, ((c1_spec_l01DrawComplexes M a0_0 a0_1 a0_2 a1).getD ([], (), ([], 0, 0), ())).snd.snd.fst.snd.snd)
def r_spec_l01DrawComplexes (M : FOps) (a0_0 : (List Int)) (a0_1 : Int) (a0_2 : Int) (a1 : Int) : Bool :=
  ((r_spec_l00Src_one M a0_0 a0_1 a0_2 5) && (((c1_spec_l01DrawComplexes M a0_0 a0_1 a0_2 a1).isSome) && (((List.length ((c1_spec_l01DrawComplexes M a0_0 a0_1 a0_2 a1).getD ([], (), ([], 0, 0), ())).fst).beq (List.length ((c1_spec_l01DrawComplexes M a0_0 a0_1 a0_2 a1).getD ([], (), ([], 0, 0), ())).fst) && true) && true)))
def S_spec_l01DrawComplexes (M : FOps) : FSpec := mkSpec (.cons (.pe (.pair (.ls (.int .u8)) (.pair (.int .i64) (.int .u64)))) (.cons (.one (.int .i64)) .nil)) (.cons (.one (.ls (.cx .f32))) .nil) (fun x => r_spec_l01DrawComplexes M x.1.1 x.1.2.1 x.1.2.2 x.2.1) (fun x => F_spec_l01DrawComplexes (p_spec_l01DrawComplexes M x.1.1 x.1.2.1 x.1.2.2 x.2.1))

def c0_spec_B10Any (M : FOps) (a0 : (List Int)) (a1 : Int) : List Int × Int × Int := p_spec_l00From M a0
def F_spec_B10Any (r : (List (Nat × Nat))) : AS.Ty (.cons (.one (.ls (.cx .f32))) .nil) × List CS := ((r, ()), [])
def p_spec_B10Any (M : FOps) (a0 : (List Int)) (a1 : Int) : (List (Nat × Nat)) :=
  (p_spec_l01DrawComplexes M (c0_spec_B10Any M a0 a1).fst (c0_spec_B10Any M a0 a1).snd.fst (c0_spec_B10Any M a0 a1).snd.snd a1).fst
def r_spec_B10Any (M : FOps) (a0 : (List Int)) (a1 : Int) : Bool :=
  ((r_spec_l01DrawComplexes M (c0_spec_B10Any M a0 a1).fst (c0_spec_B10Any M a0 a1).snd.fst (c0_spec_B10Any M a0 a1).snd.snd a1) && (((p_spec_l01DrawComplexes M (c0_spec_B10Any M a0 a1).fst (c0_spec_B10Any M a0 a1).snd.fst (c0_spec_B10Any M a0 a1).snd.snd a1).fst.length.beq (p_spec_l01DrawComplexes M (c0_spec_B10Any M a0 a1).fst (c0_spec_B10Any M a0 a1).snd.fst (c0_spec_B10Any M a0 a1).snd.snd a1).fst.length && true) && true))
def S_spec_B10Any (M : FOps) : FSpec := mkSpec (.cons (.fz (.ls (.int .u8))) (.cons (.one (.int .i64)) .nil)) (.cons (.one (.ls (.cx .f32))) .nil) (fun x => r_spec_B10Any M x.1 x.2.1) (fun x => F_spec_B10Any (p_spec_B10Any M x.1 x.2.1))

def c0_spec_B10Complex (M : FOps) (a0 : (List Int)) : List Int × Int × Int := p_spec_l00From M a0
def c1_spec_B10Complex (M : FOps) (a0 : (List Int)) : Bool × List Int × Int × Int := p_spec_l00Src_one M (c0_spec_B10Complex M a0).fst (c0_spec_B10Complex M a0).snd.fst (c0_spec_B10Complex M a0).snd.snd 4
def c2_spec_B10Complex (M : FOps) (a0 : (List Int)) : Nat × Nat × List Int × Int × Int := p_spec_l01DrawComplex M (c1_spec_B10Complex M a0).snd.fst (c1_spec_B10Complex M a0).snd.snd.fst (c1_spec_B10Complex M a0).snd.snd.snd
def c3_spec_B10Complex (M : FOps) (a0 : (List Int)) : Nat × Nat × List Int × Int × Int := p_spec_l01DrawFine M (c1_spec_B10Complex M a0).snd.fst (c1_spec_B10Complex M a0).snd.snd.fst (c1_spec_B10Complex M a0).snd.snd.snd
def F_spec_B10Complex (r : Nat × Nat) : AS.Ty (.cons (.one (.cx .f32)) .nil) × List CS := (((r.1, r.2), ()), [])
def p_spec_B10Complex (M : FOps) (a0 : (List Int)) : Nat × Nat :=
  (bif (c1_spec_B10Complex M a0).fst then ((c2_spec_B10Complex M a0).fst, (c2_spec_B10Complex M a0).snd.fst) else ((c3_spec_B10Complex M a0).fst, (c3_spec_B10Complex M a0).snd.fst))
def r_spec_B10Complex (M : FOps) (a0 : (List Int)) : Bool :=
  ((r_spec_l00Src_one M (c0_spec_B10Complex M a0).fst (c0_spec_B10Complex M a0).snd.fst (c0_spec_B10Complex M a0).snd.snd 4) && (bif (c1_spec_B10Complex M a0).fst then ((r_spec_l01DrawComplex M (c1_spec_B10Complex M a0).snd.fst (c1_spec_B10Complex M a0).snd.snd.fst (c1_spec_B10Complex M a0).snd.snd.snd) && true) else ((r_spec_l01DrawFine M (c1_spec_B10Complex M a0).snd.fst (c1_spec_B10Complex M a0).snd.snd.fst (c1_spec_B10Complex M a0).snd.snd.snd) && true)))
def S_spec_B10Complex (M : FOps) : FSpec := mkSpec (.cons (.fz (.ls (.int .u8))) .nil) (.cons (.one (.cx .f32)) .nil) (fun x => r_spec_B10Complex M x.1) (fun x => F_spec_B10Complex (p_spec_B10Complex M x.1))

def c0_impl_PowerOf (M : FOps) (a0_0 : Nat) (a0_1 : Nat) : Nat := p_impl_power M a0_0 a0_1
def F_impl_PowerOf (r : Nat) : AS.Ty (.cons (.one (.fl .f32)) .nil) × List CS := ((r, ()), [])
def p_impl_PowerOf (M : FOps) (a0_0 : Nat) (a0_1 : Nat) : Nat :=
  M.nar (c0_impl_PowerOf M a0_0 a0_1)
def r_impl_PowerOf (M : FOps) (a0_0 : Nat) (a0_1 : Nat) : Bool :=
  ((M.narOk (c0_impl_PowerOf M a0_0 a0_1)) && true)
def S_impl_PowerOf (M : FOps) : FSpec := mkSpec (.cons (.one (.cx .f32)) .nil) (.cons (.one (.fl .f32)) .nil) (fun x => r_impl_PowerOf M x.1.1 x.1.2) (fun x => F_impl_PowerOf (p_impl_PowerOf M x.1.1 x.1.2))

def c0_impl_QuotientOf (M : FOps) (a0_0 : Nat) (a0_1 : Nat) (a1_0 : Nat) (a1_1 : Nat) : Nat × Nat := p_impl_ConjugateOf M a1_0 a1_1
def c1_impl_QuotientOf (M : FOps) (a0_0 : Nat) (a0_1 : Nat) (a1_0 : Nat) (a1_1 : Nat) : Nat × Nat := p_impl_product M a0_0 a0_1 (c0_impl_QuotientOf M a0_0 a0_1 a1_0 a1_1).fst (c0_impl_QuotientOf M a0_0 a0_1 a1_0 a1_1).snd
def c2_impl_QuotientOf (M : FOps) (a0_0 : Nat) (a0_1 : Nat) (a1_0 : Nat) (a1_1 : Nat) : Nat := p_impl_power M a1_0 a1_1
def c3_impl_QuotientOf (M : FOps) (a0_0 : Nat) (a0_1 : Nat) (a1_0 : Nat) (a1_1 : Nat) : Nat := M.bin BinOp.quo FloatKind.f64 (c1_impl_QuotientOf M a0_0 a0_1 a1_0 a1_1).fst (c2_impl_QuotientOf M a0_0 a0_1 a1_0 a1_1)
def c4_impl_QuotientOf (M : FOps) (a0_0 : Nat) (a0_1 : Nat) (a1_0 : Nat) (a1_1 : Nat) : Nat := M.bin BinOp.quo FloatKind.f64 (c1_impl_QuotientOf M a0_0 a0_1 a1_0 a1_1).snd (c2_impl_QuotientOf M a0_0 a0_1 a1_0 a1_1)
def F_impl_QuotientOf (r : Nat × Nat) : AS.Ty (.cons (.one (.cx .f32)) .nil) × List CS := (((r.1, r.2), ()), [])
def p_impl_QuotientOf (M : FOps) (a0_0 : Nat) (a0_1 : Nat) (a1_0 : Nat) (a1_1 : Nat) : Nat × Nat :=
  (M.nar (c3_impl_QuotientOf M a0_0 a0_1 a1_0 a1_1), M.nar (c4_impl_QuotientOf M a0_0 a0_1 a1_0 a1_1))
def r_impl_QuotientOf (M : FOps) (a0_0 : Nat) (a0_1 : Nat) (a1_0 : Nat) (a1_1 : Nat) : Bool :=
  ((M.narOk (c3_impl_QuotientOf M a0_0 a0_1 a1_0 a1_1)) && ((M.narOk (c4_impl_QuotientOf M a0_0 a0_1 a1_0 a1_1)) && true))
def S_impl_QuotientOf (M : FOps) : FSpec := mkSpec (.cons (.one (.cx .f32)) (.cons (.one (.cx .f32)) .nil)) (.cons (.one (.cx .f32)) .nil) (fun x => r_impl_QuotientOf M x.1.1 x.1.2 x.2.1.1 x.2.1.2) (fun x => F_impl_QuotientOf (p_impl_QuotientOf M x.1.1 x.1.2 x.2.1.1 x.2.1.2))

def F_impl_ScaleComplex (r : Nat × Nat) : AS.Ty (.cons (.one (.cx .f32)) .nil) × List CS := (((r.1, r.2), ()), [])
def p_impl_ScaleComplex (M : FOps) (a0_0 : Nat) (a0_1 : Nat) (a1 : Nat) : Nat × Nat :=
  (M.bin BinOp.mul FloatKind.f32 a0_0 a1, M.bin BinOp.mul FloatKind.f32 a0_1 a1)
def S_impl_ScaleComplex (M : FOps) : FSpec := mkSpec (.cons (.one (.cx .f32)) (.cons (.one (.fl .f32)) .nil)) (.cons (.one (.cx .f32)) .nil) (fun _ => true) (fun x => F_impl_ScaleComplex (p_impl_ScaleComplex M x.1.1 x.1.2 x.2.1))

def c0_impl_complexText (M : FOps) (a0_0 : Nat) (a0_1 : Nat) : ByteArray := p_impl_bitsText M a0_0
def c1_impl_complexText (M : FOps) (a0_0 : Nat) (a0_1 : Nat) : ByteArray := p_impl_bitsText M a0_1
def F_impl_complexText (r : ByteArray) : AS.Ty (.cons (.one .str) .nil) × List CS := ((r, ()), [])
def p_impl_complexText (M : FOps) (a0_0 : Nat) (a0_1 : Nat) : ByteArray :=
  (c0_impl_complexText M a0_0 a0_1) ++ (c1_impl_complexText M a0_0 a0_1)
def r_impl_complexText (M : FOps) (a0_0 : Nat) (a0_1 : Nat) : Bool :=
  ((r_impl_bitsText M a0_0) && ((r_impl_bitsText M a0_1) && ((((c0_impl_complexText M a0_0 a0_1).size + (c1_impl_complexText M a0_0 a0_1).size).ble 4611686018427387904) && true)))
def S_impl_complexText (M : FOps) : FSpec := mkSpec (.cons (.one (.cx .f32)) .nil) (.cons (.one .str) .nil) (fun x => r_impl_complexText M x.1.1 x.1.2) (fun x => F_impl_complexText (p_impl_complexText M x.1.1 x.1.2))

def F_impl_isList_complex64 (r : Bool) : AS.Ty (.cons (.one .bool) .nil) × List CS := ((r, ()), [])
def p_impl_isList_complex64 (M : FOps) (a0 : (List (Nat × Nat))) : Bool :=
  decide ((↑a0.length : Int) ≤ 256)
def S_impl_isList_complex64 (M : FOps) : FSpec := mkSpec (.cons (.one (.ls (.cx .f32))) .nil) (.cons (.one .bool) .nil) (fun _ => true) (fun x => F_impl_isList_complex64 (p_impl_isList_complex64 M x.1))

/-- impl.joinTexts[complex64], loop 0: (.tf 1 54) (.to 5 0 .str) (.tv 11 true (.ls (.cx .f32))) (.tv 12 false (.int .i64)) (.tv 13 false (.int .i64)) (.tv 4 false .str) -/
def st_impl_joinTexts_complex64_0 (M : FOps) (v0 : (List ByteArray)) (v1 : (List (Nat × Nat))) (v2 : Int) (v3 : Int) (v4 : ByteArray) : Option ((Unit × (List ByteArray) × (List (Nat × Nat)) × Int × Int × ByteArray × Unit) ⊕ ((List ByteArray) × ByteArray × Unit)) :=
  (brT (decide (v3 < v2)) (brT (decide (0 ≤ v3) && decide (v3 < (↑v1.length : Int))) (brT (r_impl_complexText M (v1.getD v3.toNat (0, 0)).fst (v1.getD v3.toNat (0, 0)).snd) (brT (v0.length.beq v0.length && (v0.length + [p_impl_complexText M (v1.getD v3.toNat (0, 0)).fst (v1.getD v3.toNat (0, 0)).snd].length).ble 1073741824) (brT ((v0 ++ [p_impl_complexText M (v1.getD v3.toNat (0, 0)).fst (v1.getD v3.toNat (0, 0)).snd]).length.beq (v0 ++ [p_impl_complexText M (v1.getD v3.toNat (0, 0)).fst (v1.getD v3.toNat (0, 0)).snd]).length && true) (some (.inl ((), (v0 ++ [p_impl_complexText M (v1.getD v3.toNat (0, 0)).fst (v1.getD v3.toNat (0, 0)).snd], (v1, (v2, (IntKind.i64.wrap (v3 + 1), (v4, ())))))))) none) none) none) none) (brT (v0.length.beq v0.length && true) (some (.inr (v0, (v4, ())))) none))
def W_impl_joinTexts_complex64_0 (M : FOps) : (Unit × (List ByteArray) × (List (Nat × Nat)) × Int × Int × ByteArray × Unit) → Option ((List ByteArray) × ByteArray × Unit) := runW (fun x => st_impl_joinTexts_complex64_0 M x.2.1 x.2.2.1 x.2.2.2.1 x.2.2.2.2.1 x.2.2.2.2.2.1)
def L_impl_joinTexts_complex64_0 (M : FOps) : LSpec := mkL (.cons (.tf 1 54) (.cons (.to 5 0 .str) (.cons (.tv 11 true (.ls (.cx .f32))) (.cons (.tv 12 false (.int .i64)) (.cons (.tv 13 false (.int .i64)) (.cons (.tv 4 false .str) .nil)))))) [((.exit 0), (.cons (.to 5 0 .str) (.cons (.tv 4 false .str) .nil)))] 1 0 (W_impl_joinTexts_complex64_0 M)
def c0_impl_joinTexts_complex64 (M : FOps) (a0 : (List (Nat × Nat))) : Option (List ByteArray × ByteArray × Unit) := W_impl_joinTexts_complex64_0 M ((), [], a0, (↑a0.length : Int), 0, (ByteArray.mk #[]), ())
def F_impl_joinTexts_complex64 (r : ByteArray) : AS.Ty (.cons (.one .str) .nil) × List CS := ((r, ()), [])
def p_impl_joinTexts_complex64 (M : FOps) (a0 : (List (Nat × Nat))) : ByteArray :=
  (bif (↑a0.length : Int) == 0 then (ByteArray.mk #[110, 111, 110, 101]) else p_strings_Join M ((c0_impl_joinTexts_complex64 M a0).getD ([], (ByteArray.mk #[]), ())).fst (ByteArray.mk #[44]))
def r_impl_joinTexts_complex64 (M : FOps) (a0 : (List (Nat × Nat))) : Bool :=
  (bif (↑a0.length : Int) == 0 then true else (((c0_impl_joinTexts_complex64 M a0).isSome) && (((List.length ((c0_impl_joinTexts_complex64 M a0).getD ([], (ByteArray.mk #[]), ())).fst).beq (List.length ((c0_impl_joinTexts_complex64 M a0).getD ([], (ByteArray.mk #[]), ())).fst) && true && r_strings_Join M ((c0_impl_joinTexts_complex64 M a0).getD ([], (ByteArray.mk #[]), ())).fst (ByteArray.mk #[44])) && true)))
def S_impl_joinTexts_complex64 (M : FOps) : FSpec := mkSpec (.cons (.one (.ls (.cx .f32))) (.cons (.fn 54 .nil) .nil)) (.cons (.one .str) .nil) (fun x => r_impl_joinTexts_complex64 M x.1) (fun x => F_impl_joinTexts_complex64 (p_impl_joinTexts_complex64 M x.1))

def F_impl_ComplexText (r : ByteArray × Bool) : AS.Ty (.cons (.one .str) (.cons (.one .bool) .nil)) × List CS := ((r.1, (r.2, ())), [])
def p_impl_ComplexText (M : FOps) (a0 : (List (Nat × Nat))) : ByteArray × Bool :=
  (bif !p_impl_isList_complex64 M a0 then ((ByteArray.mk #[]), false) else (p_impl_joinTexts_complex64 M a0, true))
def r_impl_ComplexText (M : FOps) (a0 : (List (Nat × Nat))) : Bool :=
  (bif !p_impl_isList_complex64 M a0 then true else ((r_impl_joinTexts_complex64 M a0) && true))
def S_impl_ComplexText (M : FOps) : FSpec := mkSpec (.cons (.one (.ls (.cx .f32))) .nil) (.cons (.one .str) (.cons (.one .bool) .nil)) (fun x => r_impl_ComplexText M x.1) (fun x => F_impl_ComplexText (p_impl_ComplexText M x.1))

def c0_impl_readComplex (M : FOps) (a0 : ByteArray) : ByteArray := p_sub a0 0 ((some 8).getD (↑a0.size : Int)).toNat
def c1_impl_readComplex (M : FOps) (a0 : ByteArray) : ByteArray := p_sub a0 8 (none.getD (↑a0.size : Int)).toNat
def c2_impl_readComplex (M : FOps) (a0 : ByteArray) : Nat × Bool := p_impl_readBits M (c0_impl_readComplex M a0)
def c3_impl_readComplex (M : FOps) (a0 : ByteArray) : Nat × Bool := p_impl_readBits M (c1_impl_readComplex M a0)
def F_impl_readComplex (r : Nat × Nat × Bool) : AS.Ty (.cons (.one (.cx .f32)) (.cons (.one .bool) .nil)) × List CS := (((r.1, r.2.1), (r.2.2, ())), [])
def p_impl_readComplex (M : FOps) (a0 : ByteArray) : Nat × Nat × Bool :=
  (bif (↑a0.size : Int) != 16 then (0, 0, false) else (bif (c2_impl_readComplex M a0).snd then ((c2_impl_readComplex M a0).fst, (c3_impl_readComplex M a0).fst, (c3_impl_readComplex M a0).snd) else ((c2_impl_readComplex M a0).fst, (c3_impl_readComplex M a0).fst, false)))
def r_impl_readComplex (M : FOps) (a0 : ByteArray) : Bool :=
  (bif (↑a0.size : Int) != 16 then true else ((decide ((some 8).getD (↑a0.size : Int) ≤ (↑a0.size : Int))) && ((r_impl_readBits M (c0_impl_readComplex M a0)) && ((decide (Int.ofNat 8 ≤ none.getD (↑a0.size : Int)) && decide (none.getD (↑a0.size : Int) ≤ (↑a0.size : Int))) && ((r_impl_readBits M (c1_impl_readComplex M a0)) && true)))))
def S_impl_readComplex (M : FOps) : FSpec := mkSpec (.cons (.one .str) .nil) (.cons (.one (.cx .f32)) (.cons (.one .bool) .nil)) (fun x => r_impl_readComplex M x.1) (fun x => F_impl_readComplex (p_impl_readComplex M x.1))

/-- impl.readTexts[complex64], loop 0: (.tv 1 false (.int .i64)) (.tf 2 56) (.to 8 1 (.cx .f32)) (.to 16 0 .str) (.tv 17 false (.int .i64)) (.tv 18 false (.int .i64)) (.to 6 2 (.cx .f32)) (.tv 7 false .bool) -/
def st_impl_readTexts_complex64_k_0 (M : FOps) (v0 : Int) (v1 : (List (Nat × Nat))) (v2 : (List ByteArray)) (v3 : Int) (v4 : Int) (v5 : (List (Nat × Nat))) (v6 : Bool) : Option ((Int × Unit × (List (Nat × Nat)) × (List ByteArray) × Int × Int × (List (Nat × Nat)) × Bool × Unit) ⊕ ((Unit × Bool × Unit) ⊕ ((List (Nat × Nat)) × (List (Nat × Nat)) × Bool × Unit))) :=
  (brT (decide (v4 < v3)) (brT (decide (0 ≤ v4) && decide (v4 < (↑v2.length : Int))) (brT (v4.toNat.blt v2.length && true) (brT (r_impl_readComplex M (v2.getD v4.toNat (ByteArray.mk #[]))) (brT (!(p_impl_readComplex M (v2.getD v4.toNat (ByteArray.mk #[]))).snd.snd) (some (.inr (.inl ((), (false, ()))))) (brT ((↑v1.length : Int) == v0) (some (.inr (.inl ((), (false, ()))))) (brT (v1.length.beq v1.length && (v1.length + [((p_impl_readComplex M (v2.getD v4.toNat (ByteArray.mk #[]))).fst, (p_impl_readComplex M (v2.getD v4.toNat (ByteArray.mk #[]))).snd.fst)].length).ble 1073741824) (brT ((v1 ++ [((p_impl_readComplex M (v2.getD v4.toNat (ByteArray.mk #[]))).fst, (p_impl_readComplex M (v2.getD v4.toNat (ByteArray.mk #[]))).snd.fst)]).length.beq (v1 ++ [((p_impl_readComplex M (v2.getD v4.toNat (ByteArray.mk #[]))).fst, (p_impl_readComplex M (v2.getD v4.toNat (ByteArray.mk #[]))).snd.fst)]).length && (v2.length.beq v2.length && (v5.length.beq v5.length && true))) (some (.inl (v0, ((), (v1 ++ [((p_impl_readComplex M (v2.getD v4.toNat (ByteArray.mk #[]))).fst, (p_impl_readComplex M (v2.getD v4.toNat (ByteArray.mk #[]))).snd.fst)], (v2, (v3, (IntKind.i64.wrap (v4 + 1), (v5, (v6, ())))))))))) none) none))) none) none) none) (brT (v1.length.beq v1.length && (v5.length.beq v5.length && true)) (some (.inr (.inr (v1, (v5, (v6, ())))))) none))
def W_impl_readTexts_complex64_k_0 (M : FOps) : (Int × Unit × (List (Nat × Nat)) × (List ByteArray) × Int × Int × (List (Nat × Nat)) × Bool × Unit) → Option ((Unit × Bool × Unit) ⊕ ((List (Nat × Nat)) × (List (Nat × Nat)) × Bool × Unit)) := runW (fun x => st_impl_readTexts_complex64_k_0 M x.1 x.2.2.1 x.2.2.2.1 x.2.2.2.2.1 x.2.2.2.2.2.1 x.2.2.2.2.2.2.1 x.2.2.2.2.2.2.2.1)
def L_impl_readTexts_complex64_k_0 (M : FOps) : LSpec := mkL (.cons (.tv 1 false (.int .i64)) (.cons (.tf 2 56) (.cons (.to 8 1 (.cx .f32)) (.cons (.to 16 0 .str) (.cons (.tv 17 false (.int .i64)) (.cons (.tv 18 false (.int .i64)) (.cons (.to 6 2 (.cx .f32)) (.cons (.tv 7 false .bool) .nil)))))))) [(.ret, (.cons (.tn 6) (.cons (.tv 7 false .bool) .nil))), ((.exit 0), (.cons (.to 8 1 (.cx .f32)) (.cons (.to 6 2 (.cx .f32)) (.cons (.tv 7 false .bool) .nil))))] 3 0 (W_impl_readTexts_complex64_k_0 M)
def c0_impl_readTexts_complex64_k (M : FOps) (a0 : ByteArray) (a1 : Int) : List ByteArray := p_strings_Split M a0 (ByteArray.mk #[44])
def c1_impl_readTexts_complex64_k (M : FOps) (a0 : ByteArray) (a1 : Int) : Option (Unit × Bool × Unit ⊕ List (Nat × Nat) × List (Nat × Nat) × Bool × Unit) := W_impl_readTexts_complex64_k_0 M (a1, (), [], (c0_impl_readTexts_complex64_k M a0 a1), (↑(c0_impl_readTexts_complex64_k M a0 a1).length : Int), 0, [], false, ())
def F_impl_readTexts_complex64_k (r : (List (Nat × Nat)) × Bool) : AS.Ty (.cons (.one (.ls (.cx .f32))) (.cons (.one .bool) .nil)) × List CS := ((r.1, (r.2, ())), [])
def p_impl_readTexts_complex64_k (M : FOps) (a0 : ByteArray) (a1 : Int) : (List (Nat × Nat)) × Bool :=
  (bif a0.toList == (ByteArray.mk #[110, 111, 110, 101]).toList then ([], true) else (bif isL ((c1_impl_readTexts_complex64_k M a0 a1).getD (Sum.inl ((), false, ()))) then ([], (getL ((), false, ()) ((c1_impl_readTexts_complex64_k M a0 a1).getD (Sum.inl ((), false, ())))).snd.fst) else ((getR ([], [], false, ()) ((c1_impl_readTexts_complex64_k M a0 a1).getD (Sum.inl ((), false, ())))).fst, true)))
def r_impl_readTexts_complex64_k (M : FOps) (a0 : ByteArray) (a1 : Int) : Bool :=
  (bif a0.toList == (ByteArray.mk #[110, 111, 110, 101]).toList then true else ((r_strings_Split M a0 (ByteArray.mk #[44])) && (((c0_impl_readTexts_complex64_k M a0 a1).length.beq (c0_impl_readTexts_complex64_k M a0 a1).length && true) && (((c1_impl_readTexts_complex64_k M a0 a1).isSome) && (bif isL ((c1_impl_readTexts_complex64_k M a0 a1).getD (Sum.inl ((), false, ()))) then true else (((List.length (getR ([], [], false, ()) ((c1_impl_readTexts_complex64_k M a0 a1).getD (Sum.inl ((), false, ())))).fst).beq (List.length (getR ([], [], false, ()) ((c1_impl_readTexts_complex64_k M a0 a1).getD (Sum.inl ((), false, ())))).fst) && true) && true))))))
def S_impl_readTexts_complex64_k (M : FOps) : FSpec := mkSpec (.cons (.one .str) (.cons (.one (.int .i64)) (.cons (.fn 56 .nil) .nil))) (.cons (.one (.ls (.cx .f32))) (.cons (.one .bool) .nil)) (fun x => r_impl_readTexts_complex64_k M x.1 x.2.1) (fun x => F_impl_readTexts_complex64_k (p_impl_readTexts_complex64_k M x.1 x.2.1))

def c0_impl_ReadComplex (M : FOps) (a0 : ByteArray) : List (Nat × Nat) × Bool := p_impl_readTexts_complex64_k M a0 256
def F_impl_ReadComplex (r : (List (Nat × Nat)) × Bool) : AS.Ty (.cons (.one (.ls (.cx .f32))) (.cons (.one .bool) .nil)) × List CS := ((r.1, (r.2, ())), [])
def p_impl_ReadComplex (M : FOps) (a0 : ByteArray) : (List (Nat × Nat)) × Bool :=
  ((c0_impl_ReadComplex M a0).fst, (c0_impl_ReadComplex M a0).snd)
def r_impl_ReadComplex (M : FOps) (a0 : ByteArray) : Bool :=
  ((r_impl_readTexts_complex64_k M a0 256) && (((c0_impl_ReadComplex M a0).fst.length.beq (c0_impl_ReadComplex M a0).fst.length && true) && true))
def S_impl_ReadComplex (M : FOps) : FSpec := mkSpec (.cons (.one .str) .nil) (.cons (.one (.ls (.cx .f32))) (.cons (.one .bool) .nil)) (fun x => r_impl_ReadComplex M x.1) (fun x => F_impl_ReadComplex (p_impl_ReadComplex M x.1))

def F_spec_l01CSame (r : Bool) : AS.Ty (.cons (.one .bool) .nil) × List CS := ((r, ()), [])
def p_spec_l01CSame (M : FOps) (a0_0 : Nat) (a0_1 : Nat) (a1_0 : Nat) (a1_1 : Nat) : Bool :=
  (bif p_spec_l01Same M a0_0 a1_0 then p_spec_l01Same M a0_1 a1_1 else false)
def r_spec_l01CSame (M : FOps) (a0_0 : Nat) (a0_1 : Nat) (a1_0 : Nat) (a1_1 : Nat) : Bool :=
  ((r_spec_l01Same M a0_0 a1_0) && (bif p_spec_l01Same M a0_0 a1_0 then ((r_spec_l01Same M a0_1 a1_1) && true) else true))
def S_spec_l01CSame (M : FOps) : FSpec := mkSpec (.cons (.one (.cx .f32)) (.cons (.one (.cx .f32)) .nil)) (.cons (.one .bool) .nil) (fun x => r_spec_l01CSame M x.1.1 x.1.2 x.2.1.1 x.2.1.2) (fun x => F_spec_l01CSame (p_spec_l01CSame M x.1.1 x.1.2 x.2.1.1 x.2.1.2))

def F_spec_SameComplex (r : Bool) : AS.Ty (.cons (.one .bool) .nil) × List CS := ((r, ()), [])
def p_spec_SameComplex (M : FOps) (a0_0 : Nat) (a0_1 : Nat) (a1_0 : Nat) (a1_1 : Nat) : Bool :=
  p_spec_l01CSame M a0_0 a0_1 a1_0 a1_1
def r_spec_SameComplex (M : FOps) (a0_0 : Nat) (a0_1 : Nat) (a1_0 : Nat) (a1_1 : Nat) : Bool :=
  ((r_spec_l01CSame M a0_0 a0_1 a1_0 a1_1) && true)
def S_spec_SameComplex (M : FOps) : FSpec := mkSpec (.cons (.one (.cx .f32)) (.cons (.one (.cx .f32)) .nil)) (.cons (.one .bool) .nil) (fun x => r_spec_SameComplex M x.1.1 x.1.2 x.2.1.1 x.2.1.2) (fun x => F_spec_SameComplex (p_spec_SameComplex M x.1.1 x.1.2 x.2.1.1 x.2.1.2))

/-- laws.b10Same, loop 0: (.tv 0 true (.ls (.cx .f32))) (.tv 1 true (.ls (.cx .f32))) (.tv 12 false (.int .i64)) (.tv 13 false (.int .i64)) (.tv 4 false .bool) -/
def st_laws_b10Same_0 (M : FOps) (v0 : (List (Nat × Nat))) (v1 : (List (Nat × Nat))) (v2 : Int) (v3 : Int) (v4 : Bool) : Option (((List (Nat × Nat)) × (List (Nat × Nat)) × Int × Int × Bool × Unit) ⊕ ((Bool × Unit) ⊕ (Bool × Unit))) :=
  (brT (decide (v3 < v2)) (brT (decide (0 ≤ v3) && decide (v3 < (↑v0.length : Int))) (brT (decide (0 ≤ v3) && decide (v3 < (↑v1.length : Int))) (brT (r_spec_SameComplex M (v0.getD v3.toNat (0, 0)).fst (v0.getD v3.toNat (0, 0)).snd (v1.getD v3.toNat (0, 0)).fst (v1.getD v3.toNat (0, 0)).snd) (brT (!p_spec_SameComplex M (v0.getD v3.toNat (0, 0)).fst (v0.getD v3.toNat (0, 0)).snd (v1.getD v3.toNat (0, 0)).fst (v1.getD v3.toNat (0, 0)).snd) (some (.inr (.inl (false, ())))) (some (.inl (v0, (v1, (v2, (IntKind.i64.wrap (v3 + 1), (v4, ())))))))) none) none) none) (some (.inr (.inr (v4, ())))))
def W_laws_b10Same_0 (M : FOps) : ((List (Nat × Nat)) × (List (Nat × Nat)) × Int × Int × Bool × Unit) → Option ((Bool × Unit) ⊕ (Bool × Unit)) := runW (fun x => st_laws_b10Same_0 M x.1 x.2.1 x.2.2.1 x.2.2.2.1 x.2.2.2.2.1)
def L_laws_b10Same_0 (M : FOps) : LSpec := mkL (.cons (.tv 0 true (.ls (.cx .f32))) (.cons (.tv 1 true (.ls (.cx .f32))) (.cons (.tv 12 false (.int .i64)) (.cons (.tv 13 false (.int .i64)) (.cons (.tv 4 false .bool) .nil))))) [(.ret, (.cons (.tv 4 false .bool) .nil)), ((.exit 0), (.cons (.tv 4 false .bool) .nil))] 0 0 (W_laws_b10Same_0 M)
def c0_laws_b10Same (M : FOps) (a0 : (List (Nat × Nat))) (a1 : (List (Nat × Nat))) : Option (Bool × Unit ⊕ Bool × Unit) := W_laws_b10Same_0 M (a0, a1, (↑a0.length : Int), 0, false, ())
def F_laws_b10Same (r : Bool) : AS.Ty (.cons (.one .bool) .nil) × List CS := ((r, ()), [])
def p_laws_b10Same (M : FOps) (a0 : (List (Nat × Nat))) (a1 : (List (Nat × Nat))) : Bool :=
  (bif (↑a0.length : Int) != (↑a1.length : Int) then false else (bif isL ((c0_laws_b10Same M a0 a1).getD (Sum.inl (false, ()))) then (getL (false, ()) ((c0_laws_b10Same M a0 a1).getD (Sum.inl (false, ())))).fst else true))
def r_laws_b10Same (M : FOps) (a0 : (List (Nat × Nat))) (a1 : (List (Nat × Nat))) : Bool :=
  (bif (↑a0.length : Int) != (↑a1.length : Int) then true else (((c0_laws_b10Same M a0 a1).isSome) && true))
def S_laws_b10Same (M : FOps) : FSpec := mkSpec (.cons (.one (.ls (.cx .f32))) (.cons (.one (.ls (.cx .f32))) .nil)) (.cons (.one .bool) .nil) (fun x => r_laws_b10Same M x.1 x.2.1) (fun x => F_laws_b10Same (p_laws_b10Same M x.1 x.2.1))

def F_impl_NarrowComplex (r : Nat × Nat) : AS.Ty (.cons (.one (.cx .f32)) .nil) × List CS := (((r.1, r.2), ()), [])
def p_impl_NarrowComplex (M : FOps) (a0_0 : Nat) (a0_1 : Nat) : Nat × Nat :=
  (M.nar a0_0, M.nar a0_1)
def r_impl_NarrowComplex (M : FOps) (a0_0 : Nat) (a0_1 : Nat) : Bool :=
  ((M.narOk a0_0) && ((M.narOk a0_1) && true))
def S_impl_NarrowComplex (M : FOps) : FSpec := mkSpec (.cons (.one (.cx .f64)) .nil) (.cons (.one (.cx .f32)) .nil) (fun x => r_impl_NarrowComplex M x.1.1 x.1.2) (fun x => F_impl_NarrowComplex (p_impl_NarrowComplex M x.1.1 x.1.2))

def F_impl_SameComplex (r : Bool) : AS.Ty (.cons (.one .bool) .nil) × List CS := ((r, ()), [])
def p_impl_SameComplex (M : FOps) (a0_0 : Nat) (a0_1 : Nat) (a1_0 : Nat) (a1_1 : Nat) : Bool :=
  (bif p_impl_SameNumber M a0_0 a1_0 then p_impl_SameNumber M a0_1 a1_1 else false)
def r_impl_SameComplex (M : FOps) (a0_0 : Nat) (a0_1 : Nat) (a1_0 : Nat) (a1_1 : Nat) : Bool :=
  ((r_impl_SameNumber M a0_0 a1_0) && (bif p_impl_SameNumber M a0_0 a1_0 then ((r_impl_SameNumber M a0_1 a1_1) && true) else true))
def S_impl_SameComplex (M : FOps) : FSpec := mkSpec (.cons (.one (.cx .f32)) (.cons (.one (.cx .f32)) .nil)) (.cons (.one .bool) .nil) (fun x => r_impl_SameComplex M x.1.1 x.1.2 x.2.1.1 x.2.1.2) (fun x => F_impl_SameComplex (p_impl_SameComplex M x.1.1 x.1.2 x.2.1.1 x.2.1.2))

def F_impl_IsFiniteComplex (r : Bool) : AS.Ty (.cons (.one .bool) .nil) × List CS := ((r, ()), [])
def p_impl_IsFiniteComplex (M : FOps) (a0_0 : Nat) (a0_1 : Nat) : Bool :=
  (bif p_impl_IsFinite M a0_0 then p_impl_IsFinite M a0_1 else false)
def S_impl_IsFiniteComplex (M : FOps) : FSpec := mkSpec (.cons (.one (.cx .f32)) .nil) (.cons (.one .bool) .nil) (fun _ => true) (fun x => F_impl_IsFiniteComplex (p_impl_IsFiniteComplex M x.1.1 x.1.2))

def F_spec_IsFinite (r : Bool) : AS.Ty (.cons (.one .bool) .nil) × List CS := ((r, ()), [])
def p_spec_IsFinite (M : FOps) (a0 : Nat) : Bool :=
  p_spec_l01Finite M a0
def S_spec_IsFinite (M : FOps) : FSpec := mkSpec (.cons (.one (.fl .f32)) .nil) (.cons (.one .bool) .nil) (fun _ => true) (fun x => F_spec_IsFinite (p_spec_IsFinite M x.1))

def F_spec_RootNumber (r : Nat) : AS.Ty (.cons (.one (.fl .f32)) .nil) × List CS := ((r, ()), [])
def p_spec_RootNumber (M : FOps) (a0 : Nat) : Nat :=
  p_spec_l01Sqrt M a0
def S_spec_RootNumber (M : FOps) : FSpec := mkSpec (.cons (.one (.fl .f32)) .nil) (.cons (.one (.fl .f32)) .nil) (fun _ => true) (fun x => F_spec_RootNumber (p_spec_RootNumber M x.1))

end
end Go.Dv
