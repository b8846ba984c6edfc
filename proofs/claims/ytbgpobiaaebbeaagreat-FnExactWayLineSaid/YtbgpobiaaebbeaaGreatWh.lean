/- Wg, Wh: merged by merge.py. -/
import Derived.Test.YtbgpobiaaebbeaaGreatQd
import Derived.Test.YtbgpobiaaebbeaaGreatWa

/- Printed by gen2.py. -/
set_option linter.unusedVariables false
set_option linter.unusedSimpArgs false

-- GENERATED BELOW (gen.py)
namespace Go.Dv
open Go.Cv
noncomputable section
/-- spec.l01LogWide, loop 0: (.tv 0 false (.fl .f64)) (.tv 3 false (.int .i64)) (.tv 2 false (.fl .f64)) -/
def st_spec_l01LogWide_0 (M : FOps) (v0 : Nat) (v1 : Int) (v2 : Nat) : Option ((Nat × Int × Nat × Unit) ⊕ (Nat × Int × Nat × Unit)) :=
  (brT (M.cmp BinOp.geq FloatKind.f64 v0 4609434218613702656) (some (.inl (M.bin BinOp.quo FloatKind.f64 v0 4611686018427387904, (IntKind.i64.wrap (v1 + 1), (v2, ()))))) (some (.inr (v0, (v1, (v2, ()))))))
def W_spec_l01LogWide_0 (M : FOps) : (Nat × Int × Nat × Unit) → Option (Nat × Int × Nat × Unit) := runW (fun x => st_spec_l01LogWide_0 M x.1 x.2.1 x.2.2.1)
def L_spec_l01LogWide_0 (M : FOps) : LSpec := mkL (.cons (.tv 0 false (.fl .f64)) (.cons (.tv 3 false (.int .i64)) (.cons (.tv 2 false (.fl .f64)) .nil))) [((.exit 1), (.cons (.tv 0 false (.fl .f64)) (.cons (.tv 3 false (.int .i64)) (.cons (.tv 2 false (.fl .f64)) .nil))))] 0 0 (W_spec_l01LogWide_0 M)
/-- spec.l01LogWide, loop 1: (.tv 0 false (.fl .f64)) (.tv 3 false (.int .i64)) (.tv 2 false (.fl .f64)) -/
def st_spec_l01LogWide_1 (M : FOps) (v0 : Nat) (v1 : Int) (v2 : Nat) : Option ((Nat × Int × Nat × Unit) ⊕ (Nat × Int × Nat × Unit)) :=
  (brT (M.cmp BinOp.lss FloatKind.f64 v0 4604930618986332160) (some (.inl (M.bin BinOp.mul FloatKind.f64 v0 4611686018427387904, (IntKind.i64.wrap (v1 - 1), (v2, ()))))) (some (.inr (v0, (v1, (v2, ()))))))
def W_spec_l01LogWide_1 (M : FOps) : (Nat × Int × Nat × Unit) → Option (Nat × Int × Nat × Unit) := runW (fun x => st_spec_l01LogWide_1 M x.1 x.2.1 x.2.2.1)
def L_spec_l01LogWide_1 (M : FOps) : LSpec := mkL (.cons (.tv 0 false (.fl .f64)) (.cons (.tv 3 false (.int .i64)) (.cons (.tv 2 false (.fl .f64)) .nil))) [((.exit 3), (.cons (.tv 0 false (.fl .f64)) (.cons (.tv 3 false (.int .i64)) (.cons (.tv 2 false (.fl .f64)) .nil))))] 0 0 (W_spec_l01LogWide_1 M)
def c0_spec_l01LogWide (M : FOps) (a0 : Nat) : Nat := p_math_NaN M
def c1_spec_l01LogWide (M : FOps) (a0 : Nat) : Option (Nat × Int × Nat × Unit) := W_spec_l01LogWide_0 M (a0, 0, 0, ())
def c2_spec_l01LogWide (M : FOps) (a0 : Nat) : Option (Nat × Int × Nat × Unit) := W_spec_l01LogWide_1 M (((c1_spec_l01LogWide M a0).getD (0, 0, 0, ())).fst, ((c1_spec_l01LogWide M a0).getD (0, 0, 0, ())).snd.fst, ((c1_spec_l01LogWide M a0).getD (0, 0, 0, ())).snd.snd.fst, ())
def c3_spec_l01LogWide (M : FOps) (a0 : Nat) : Nat := M.bin BinOp.quo FloatKind.f64 (M.bin BinOp.sub FloatKind.f64 ((c2_spec_l01LogWide M a0).getD (0, 0, 0, ())).fst 4607182418800017408) (M.bin BinOp.add FloatKind.f64 ((c2_spec_l01LogWide M a0).getD (0, 0, 0, ())).fst 4607182418800017408)
def F_spec_l01LogWide (r : Nat) : AS.Ty (.cons (.one (.fl .f64)) .nil) × List CS := ((r, ()), [])
def p_spec_l01LogWide (M : FOps) (a0 : Nat) : Nat :=
  (bif M.cmp BinOp.neq FloatKind.f64 a0 a0 then (c0_spec_l01LogWide M a0) else (bif M.cmp BinOp.lss FloatKind.f64 a0 0 then (c0_spec_l01LogWide M a0) else (bif M.cmp BinOp.eql FloatKind.f64 a0 0 then p_math_Inf M (Int.negSucc 0) else (bif p_math_IsInf M a0 1 then a0 else M.bin BinOp.add FloatKind.f64 (M.bin BinOp.mul FloatKind.f64 4611686018427387904 (M.bin BinOp.mul FloatKind.f64 (c3_spec_l01LogWide M a0) (M.bin BinOp.add FloatKind.f64 (M.bin BinOp.quo FloatKind.f64 4607182418800017408 (M.ofi FloatKind.f64 (Int.ofNat 1))) (M.bin BinOp.mul FloatKind.f64 (M.bin BinOp.mul FloatKind.f64 (c3_spec_l01LogWide M a0) (c3_spec_l01LogWide M a0)) (M.bin BinOp.add FloatKind.f64 (M.bin BinOp.quo FloatKind.f64 4607182418800017408 (M.ofi FloatKind.f64 (Int.ofNat 3))) (M.bin BinOp.mul FloatKind.f64 (M.bin BinOp.mul FloatKind.f64 (c3_spec_l01LogWide M a0) (c3_spec_l01LogWide M a0)) (M.bin BinOp.add FloatKind.f64 (M.bin BinOp.quo FloatKind.f64 4607182418800017408 (M.ofi FloatKind.f64 (Int.ofNat 5))) (M.bin BinOp.mul FloatKind.f64 (M.bin BinOp.mul FloatKind.f64 (c3_spec_l01LogWide M a0) (c3_spec_l01LogWide M a0)) (M.bin BinOp.add FloatKind.f64 (M.bin BinOp.quo FloatKind.f64 4607182418800017408 (M.ofi FloatKind.f64 (Int.ofNat 7))) (M.bin BinOp.mul FloatKind.f64 (M.bin BinOp.mul FloatKind.f64 (c3_spec_l01LogWide M a0) (c3_spec_l01LogWide M a0)) (M.bin BinOp.add FloatKind.f64 (M.bin BinOp.quo FloatKind.f64 4607182418800017408 (M.ofi FloatKind.f64 (Int.ofNat 9))) (M.bin BinOp.mul FloatKind.f64 (M.bin BinOp.mul FloatKind.f64 (c3_spec_l01LogWide M a0) (c3_spec_l01LogWide M a0)) (M.bin BinOp.add FloatKind.f64 (M.bin BinOp.quo FloatKind.f64 4607182418800017408 (M.ofi FloatKind.f64 (Int.ofNat 11))) (M.bin BinOp.mul FloatKind.f64 (M.bin BinOp.mul FloatKind.f64 (c3_spec_l01LogWide M a0) (c3_spec_l01LogWide M a0)) (M.bin BinOp.add FloatKind.f64 (M.bin BinOp.quo FloatKind.f64 4607182418800017408 (M.ofi FloatKind.f64 (Int.ofNat 13))) (M.bin BinOp.mul FloatKind.f64 (M.bin BinOp.mul FloatKind.f64 (c3_spec_l01LogWide M a0) (c3_spec_l01LogWide M a0)) (M.bin BinOp.add FloatKind.f64 (M.bin BinOp.quo FloatKind.f64 4607182418800017408 (M.ofi FloatKind.f64 (Int.ofNat 15))) (M.bin BinOp.mul FloatKind.f64 (M.bin BinOp.mul FloatKind.f64 (c3_spec_l01LogWide M a0) (c3_spec_l01LogWide M a0)) (M.bin BinOp.add FloatKind.f64 (M.bin BinOp.quo FloatKind.f64 4607182418800017408 (M.ofi FloatKind.f64 (Int.ofNat 17))) (M.bin BinOp.mul FloatKind.f64 (M.bin BinOp.mul FloatKind.f64 (c3_spec_l01LogWide M a0) (c3_spec_l01LogWide M a0)) (M.bin BinOp.add FloatKind.f64 (M.bin BinOp.quo FloatKind.f64 4607182418800017408 (M.ofi FloatKind.f64 (Int.ofNat 19))) (M.bin BinOp.mul FloatKind.f64 (M.bin BinOp.mul FloatKind.f64 (c3_spec_l01LogWide M a0) (c3_spec_l01LogWide M a0)) (M.bin BinOp.add FloatKind.f64 (M.bin BinOp.quo FloatKind.f64 4607182418800017408 (M.ofi FloatKind.f64 (Int.ofNat 21))) (M.bin BinOp.mul FloatKind.f64 (M.bin BinOp.mul FloatKind.f64 (c3_spec_l01LogWide M a0) (c3_spec_l01LogWide M a0)) (M.bin BinOp.add FloatKind.f64 (M.bin BinOp.quo FloatKind.f64 4607182418800017408 (M.ofi FloatKind.f64 (Int.ofNat 23))) (M.bin BinOp.mul FloatKind.f64 (M.bin BinOp.mul FloatKind.f64 (c3_spec_l01LogWide M a0) (c3_spec_l01LogWide M a0)) (M.bin BinOp.add FloatKind.f64 (M.bin BinOp.quo FloatKind.f64 4607182418800017408 (M.ofi FloatKind.f64 25)) (M.bin BinOp.mul FloatKind.f64 (M.bin BinOp.mul FloatKind.f64 (c3_spec_l01LogWide M a0) (c3_spec_l01LogWide M a0)) 0)))))))))))))))))))))))))))) (M.bin BinOp.mul FloatKind.f64 (M.ofi FloatKind.f64 ((c2_spec_l01LogWide M a0).getD (0, 0, 0, ())).snd.fst) 4604418534313441775)))))
def r_spec_l01LogWide (M : FOps) (a0 : Nat) : Bool :=
  (bif M.cmp BinOp.neq FloatKind.f64 a0 a0 then true else (bif M.cmp BinOp.lss FloatKind.f64 a0 0 then true else (bif M.cmp BinOp.eql FloatKind.f64 a0 0 then true else (bif p_math_IsInf M a0 1 then true else (((c1_spec_l01LogWide M a0).isSome) && (((c2_spec_l01LogWide M a0).isSome) && true))))))
def S_spec_l01LogWide (M : FOps) : FSpec := mkSpec (.cons (.one (.fl .f64)) .nil) (.cons (.one (.fl .f64)) .nil) (fun x => r_spec_l01LogWide M x.1) (fun x => F_spec_l01LogWide (p_spec_l01LogWide M x.1))

/-- impl.logarithm, loop 0: (.tv 3 false (.fl .f64)) (.tv 4 false (.int .i64)) (.tv 2 false (.fl .f64)) -/
def st_impl_logarithm_0 (M : FOps) (v0 : Nat) (v1 : Int) (v2 : Nat) : Option ((Nat × Int × Nat × Unit) ⊕ (Nat × Int × Nat × Unit)) :=
  (brT (M.cmp BinOp.geq FloatKind.f64 v0 4609434218613702656) (some (.inl (M.bin BinOp.quo FloatKind.f64 v0 4611686018427387904, (IntKind.i64.wrap (v1 + 1), (v2, ()))))) (some (.inr (v0, (v1, (v2, ()))))))
def W_impl_logarithm_0 (M : FOps) : (Nat × Int × Nat × Unit) → Option (Nat × Int × Nat × Unit) := runW (fun x => st_impl_logarithm_0 M x.1 x.2.1 x.2.2.1)
def L_impl_logarithm_0 (M : FOps) : LSpec := mkL (.cons (.tv 3 false (.fl .f64)) (.cons (.tv 4 false (.int .i64)) (.cons (.tv 2 false (.fl .f64)) .nil))) [((.exit 0), (.cons (.tv 3 false (.fl .f64)) (.cons (.tv 4 false (.int .i64)) (.cons (.tv 2 false (.fl .f64)) .nil))))] 0 0 (W_impl_logarithm_0 M)
/-- impl.logarithm, loop 1: (.tv 3 false (.fl .f64)) (.tv 4 false (.int .i64)) (.tv 2 false (.fl .f64)) -/
def st_impl_logarithm_1 (M : FOps) (v0 : Nat) (v1 : Int) (v2 : Nat) : Option ((Nat × Int × Nat × Unit) ⊕ (Nat × Int × Nat × Unit)) :=
  (brT (M.cmp BinOp.lss FloatKind.f64 v0 4604930618986332160) (some (.inl (M.bin BinOp.mul FloatKind.f64 v0 4611686018427387904, (IntKind.i64.wrap (v1 - 1), (v2, ()))))) (some (.inr (v0, (v1, (v2, ()))))))
def W_impl_logarithm_1 (M : FOps) : (Nat × Int × Nat × Unit) → Option (Nat × Int × Nat × Unit) := runW (fun x => st_impl_logarithm_1 M x.1 x.2.1 x.2.2.1)
def L_impl_logarithm_1 (M : FOps) : LSpec := mkL (.cons (.tv 3 false (.fl .f64)) (.cons (.tv 4 false (.int .i64)) (.cons (.tv 2 false (.fl .f64)) .nil))) [((.exit 2), (.cons (.tv 3 false (.fl .f64)) (.cons (.tv 4 false (.int .i64)) (.cons (.tv 2 false (.fl .f64)) .nil))))] 0 0 (W_impl_logarithm_1 M)
def c0_impl_logarithm (M : FOps) (a0 : Nat) : Option (Nat × Int × Nat × Unit) := W_impl_logarithm_0 M (M.wid a0, 0, 0, ())
def c1_impl_logarithm (M : FOps) (a0 : Nat) : Option (Nat × Int × Nat × Unit) := W_impl_logarithm_1 M (((c0_impl_logarithm M a0).getD (0, 0, 0, ())).fst, ((c0_impl_logarithm M a0).getD (0, 0, 0, ())).snd.fst, ((c0_impl_logarithm M a0).getD (0, 0, 0, ())).snd.snd.fst, ())
def c2_impl_logarithm (M : FOps) (a0 : Nat) : Nat := M.bin BinOp.quo FloatKind.f64 (M.bin BinOp.sub FloatKind.f64 ((c1_impl_logarithm M a0).getD (0, 0, 0, ())).fst 4607182418800017408) (M.bin BinOp.add FloatKind.f64 ((c1_impl_logarithm M a0).getD (0, 0, 0, ())).fst 4607182418800017408)
def F_impl_logarithm (r : Nat) : AS.Ty (.cons (.one (.fl .f64)) .nil) × List CS := ((r, ()), [])
def p_impl_logarithm (M : FOps) (a0 : Nat) : Nat :=
  M.bin BinOp.add FloatKind.f64 (M.bin BinOp.mul FloatKind.f64 4611686018427387904 (M.bin BinOp.mul FloatKind.f64 (c2_impl_logarithm M a0) (M.bin BinOp.add FloatKind.f64 (M.bin BinOp.quo FloatKind.f64 4607182418800017408 (M.ofi FloatKind.f64 (Int.ofNat 1))) (M.bin BinOp.mul FloatKind.f64 (M.bin BinOp.mul FloatKind.f64 (c2_impl_logarithm M a0) (c2_impl_logarithm M a0)) (M.bin BinOp.add FloatKind.f64 (M.bin BinOp.quo FloatKind.f64 4607182418800017408 (M.ofi FloatKind.f64 (Int.ofNat 3))) (M.bin BinOp.mul FloatKind.f64 (M.bin BinOp.mul FloatKind.f64 (c2_impl_logarithm M a0) (c2_impl_logarithm M a0)) (M.bin BinOp.add FloatKind.f64 (M.bin BinOp.quo FloatKind.f64 4607182418800017408 (M.ofi FloatKind.f64 (Int.ofNat 5))) (M.bin BinOp.mul FloatKind.f64 (M.bin BinOp.mul FloatKind.f64 (c2_impl_logarithm M a0) (c2_impl_logarithm M a0)) (M.bin BinOp.add FloatKind.f64 (M.bin BinOp.quo FloatKind.f64 4607182418800017408 (M.ofi FloatKind.f64 (Int.ofNat 7))) (M.bin BinOp.mul FloatKind.f64 (M.bin BinOp.mul FloatKind.f64 (c2_impl_logarithm M a0) (c2_impl_logarithm M a0)) (M.bin BinOp.add FloatKind.f64 (M.bin BinOp.quo FloatKind.f64 4607182418800017408 (M.ofi FloatKind.f64 (Int.ofNat 9))) (M.bin BinOp.mul FloatKind.f64 (M.bin BinOp.mul FloatKind.f64 (c2_impl_logarithm M a0) (c2_impl_logarithm M a0)) (M.bin BinOp.add FloatKind.f64 (M.bin BinOp.quo FloatKind.f64 4607182418800017408 (M.ofi FloatKind.f64 (Int.ofNat 11))) (M.bin BinOp.mul FloatKind.f64 (M.bin BinOp.mul FloatKind.f64 (c2_impl_logarithm M a0) (c2_impl_logarithm M a0)) (M.bin BinOp.add FloatKind.f64 (M.bin BinOp.quo FloatKind.f64 4607182418800017408 (M.ofi FloatKind.f64 (Int.ofNat 13))) (M.bin BinOp.mul FloatKind.f64 (M.bin BinOp.mul FloatKind.f64 (c2_impl_logarithm M a0) (c2_impl_logarithm M a0)) (M.bin BinOp.add FloatKind.f64 (M.bin BinOp.quo FloatKind.f64 4607182418800017408 (M.ofi FloatKind.f64 (Int.ofNat 15))) (M.bin BinOp.mul FloatKind.f64 (M.bin BinOp.mul FloatKind.f64 (c2_impl_logarithm M a0) (c2_impl_logarithm M a0)) (M.bin BinOp.add FloatKind.f64 (M.bin BinOp.quo FloatKind.f64 4607182418800017408 (M.ofi FloatKind.f64 (Int.ofNat 17))) (M.bin BinOp.mul FloatKind.f64 (M.bin BinOp.mul FloatKind.f64 (c2_impl_logarithm M a0) (c2_impl_logarithm M a0)) (M.bin BinOp.add FloatKind.f64 (M.bin BinOp.quo FloatKind.f64 4607182418800017408 (M.ofi FloatKind.f64 (Int.ofNat 19))) (M.bin BinOp.mul FloatKind.f64 (M.bin BinOp.mul FloatKind.f64 (c2_impl_logarithm M a0) (c2_impl_logarithm M a0)) (M.bin BinOp.add FloatKind.f64 (M.bin BinOp.quo FloatKind.f64 4607182418800017408 (M.ofi FloatKind.f64 (Int.ofNat 21))) (M.bin BinOp.mul FloatKind.f64 (M.bin BinOp.mul FloatKind.f64 (c2_impl_logarithm M a0) (c2_impl_logarithm M a0)) (M.bin BinOp.add FloatKind.f64 (M.bin BinOp.quo FloatKind.f64 4607182418800017408 (M.ofi FloatKind.f64 (Int.ofNat 23))) (M.bin BinOp.mul FloatKind.f64 (M.bin BinOp.mul FloatKind.f64 (c2_impl_logarithm M a0) (c2_impl_logarithm M a0)) (M.bin BinOp.add FloatKind.f64 (M.bin BinOp.quo FloatKind.f64 4607182418800017408 (M.ofi FloatKind.f64 25)) (M.bin BinOp.mul FloatKind.f64 (M.bin BinOp.mul FloatKind.f64 (c2_impl_logarithm M a0) (c2_impl_logarithm M a0)) 0)))))))))))))))))))))))))))) (M.bin BinOp.mul FloatKind.f64 (M.ofi FloatKind.f64 ((c1_impl_logarithm M a0).getD (0, 0, 0, ())).snd.fst) 4604418534313441775)
def r_impl_logarithm (M : FOps) (a0 : Nat) : Bool :=
  (((c0_impl_logarithm M a0).isSome) && (((c1_impl_logarithm M a0).isSome) && true))
def S_impl_logarithm (M : FOps) : FSpec := mkSpec (.cons (.one (.fl .f32)) .nil) (.cons (.one (.fl .f64)) .nil) (fun x => r_impl_logarithm M x.1) (fun x => F_impl_logarithm (p_impl_logarithm M x.1))

end
end Go.Dv

/- Printed by gen2.py. -/
set_option linter.unusedVariables false
set_option linter.unusedSimpArgs false

-- GENERATED BELOW (gen.py)
namespace Go.Dv
open Go.Cv
noncomputable section
def c0_spec_l01Log (M : FOps) (a0 : Nat) : Nat := M.wid a0
def c1_spec_l01Log (M : FOps) (a0 : Nat) : Nat := p_spec_l01LogWide M (c0_spec_l01Log M a0)
def F_spec_l01Log (r : Nat) : AS.Ty (.cons (.one (.fl .f32)) .nil) × List CS := ((r, ()), [])
def p_spec_l01Log (M : FOps) (a0 : Nat) : Nat :=
  p_spec_l01Narrow M (c1_spec_l01Log M a0)
def r_spec_l01Log (M : FOps) (a0 : Nat) : Bool :=
  ((r_spec_l01LogWide M (c0_spec_l01Log M a0)) && ((r_spec_l01Narrow M (c1_spec_l01Log M a0)) && true))
def S_spec_l01Log (M : FOps) : FSpec := mkSpec (.cons (.one (.fl .f32)) .nil) (.cons (.one (.fl .f32)) .nil) (fun x => r_spec_l01Log M x.1) (fun x => F_spec_l01Log (p_spec_l01Log M x.1))

def c0_spec_l02Stretch (M : FOps) (a0 : Nat) : Nat := M.bin BinOp.quo FloatKind.f32 (M.bin BinOp.add FloatKind.f32 1065353216 (p_spec_l01Sine M a0)) (p_spec_l02Cosine M a0)
def c1_spec_l02Stretch (M : FOps) (a0 : Nat) : Nat × Bool := p_spec_l02Number M (M.bin BinOp.quo FloatKind.f32 (p_spec_l01Log M (c0_spec_l02Stretch M a0)) 1086918619)
def F_spec_l02Stretch (r : Nat × Bool) : AS.Ty (.cons (.one (.fl .f32)) (.cons (.one .bool) .nil)) × List CS := ((r.1, (r.2, ())), [])
def p_spec_l02Stretch (M : FOps) (a0 : Nat) : Nat × Bool :=
  (bif M.cmp BinOp.gtr FloatKind.f32 a0 3196059648 then (bif !M.cmp BinOp.lss FloatKind.f32 a0 1048576000 then (0, false) else ((c1_spec_l02Stretch M a0).fst, (c1_spec_l02Stretch M a0).snd)) else (0, false))
def r_spec_l02Stretch (M : FOps) (a0 : Nat) : Bool :=
  (bif M.cmp BinOp.gtr FloatKind.f32 a0 3196059648 then (bif !M.cmp BinOp.lss FloatKind.f32 a0 1048576000 then true else ((r_spec_l01Log M (c0_spec_l02Stretch M a0)) && true)) else true)
def S_spec_l02Stretch (M : FOps) : FSpec := mkSpec (.cons (.one (.fl .f32)) .nil) (.cons (.one (.fl .f32)) (.cons (.one .bool) .nil)) (fun x => r_spec_l02Stretch M x.1) (fun x => F_spec_l02Stretch (p_spec_l02Stretch M x.1))

def c0_impl_LogNumber (M : FOps) (a0 : Nat) : Nat := p_math_Inf M (Int.negSucc 0)
def c1_impl_LogNumber (M : FOps) (a0 : Nat) : Nat := p_math_NaN M
def c2_impl_LogNumber (M : FOps) (a0 : Nat) : Bool := M.narOk (c1_impl_LogNumber M a0)
def c3_impl_LogNumber (M : FOps) (a0 : Nat) : Nat := M.nar (c1_impl_LogNumber M a0)
def c4_impl_LogNumber (M : FOps) (a0 : Nat) : Nat := p_impl_logarithm M a0
def F_impl_LogNumber (r : Nat) : AS.Ty (.cons (.one (.fl .f32)) .nil) × List CS := ((r, ()), [])
def p_impl_LogNumber (M : FOps) (a0 : Nat) : Nat :=
  (bif M.cmp BinOp.eql FloatKind.f32 a0 0 then M.nar (c0_impl_LogNumber M a0) else (bif M.cmp BinOp.lss FloatKind.f32 a0 0 then (c3_impl_LogNumber M a0) else (bif M.cmp BinOp.neq FloatKind.f32 a0 a0 then (c3_impl_LogNumber M a0) else (bif !p_impl_IsFinite M a0 then a0 else M.nar (c4_impl_LogNumber M a0)))))
def r_impl_LogNumber (M : FOps) (a0 : Nat) : Bool :=
  (bif M.cmp BinOp.eql FloatKind.f32 a0 0 then ((M.narOk (c0_impl_LogNumber M a0)) && true) else (bif M.cmp BinOp.lss FloatKind.f32 a0 0 then (((c2_impl_LogNumber M a0)) && true) else (bif M.cmp BinOp.neq FloatKind.f32 a0 a0 then (((c2_impl_LogNumber M a0)) && true) else (bif !p_impl_IsFinite M a0 then true else ((r_impl_logarithm M a0) && ((M.narOk (c4_impl_LogNumber M a0)) && true))))))
def S_impl_LogNumber (M : FOps) : FSpec := mkSpec (.cons (.one (.fl .f32)) .nil) (.cons (.one (.fl .f32)) .nil) (fun x => r_impl_LogNumber M x.1) (fun x => F_impl_LogNumber (p_impl_LogNumber M x.1))

def c0_impl_stretch (M : FOps) (a0 : Nat) : Nat := M.bin BinOp.quo FloatKind.f32 (M.bin BinOp.add FloatKind.f32 1065353216 (p_impl_SineTurns M a0)) (p_impl_cosine M a0)
def F_impl_stretch (r : Nat) : AS.Ty (.cons (.one (.fl .f32)) .nil) × List CS := ((r, ()), [])
def p_impl_stretch (M : FOps) (a0 : Nat) : Nat :=
  M.bin BinOp.quo FloatKind.f32 (p_impl_LogNumber M (c0_impl_stretch M a0)) 1086918619
def r_impl_stretch (M : FOps) (a0 : Nat) : Bool :=
  ((r_impl_LogNumber M (c0_impl_stretch M a0)) && true)
def S_impl_stretch (M : FOps) : FSpec := mkSpec (.cons (.one (.fl .f32)) .nil) (.cons (.one (.fl .f32)) .nil) (fun x => r_impl_stretch M x.1) (fun x => F_impl_stretch (p_impl_stretch M x.1))

def c0_impl_StretchNorth (M : FOps) (a0 : Nat) : Nat × Bool := p_impl_finite M (p_impl_stretch M a0) (p_impl_isBetweenPoles M a0)
def F_impl_StretchNorth (r : Nat × Bool) : AS.Ty (.cons (.one (.fl .f32)) (.cons (.one .bool) .nil)) × List CS := ((r.1, (r.2, ())), [])
def p_impl_StretchNorth (M : FOps) (a0 : Nat) : Nat × Bool :=
  ((c0_impl_StretchNorth M a0).fst, (c0_impl_StretchNorth M a0).snd)
def r_impl_StretchNorth (M : FOps) (a0 : Nat) : Bool :=
  ((r_impl_stretch M a0) && true)
def S_impl_StretchNorth (M : FOps) : FSpec := mkSpec (.cons (.one (.fl .f32)) .nil) (.cons (.one (.fl .f32)) (.cons (.one .bool) .nil)) (fun x => r_impl_StretchNorth M x.1) (fun x => F_impl_StretchNorth (p_impl_StretchNorth M x.1))

end
end Go.Dv
