/- Printed by gen2.py. -/
import Derived.Test.YtbgpobiaaebbeaaGreatDoorWkr

set_option linter.unusedVariables false
set_option linter.unusedSimpArgs false

-- GENERATED BELOW (gen.py)
namespace Go.Dv
open Go.Cv
noncomputable section
/-- laws.markFloat32S, loop 0: (.to 0 0 (.fl .f32)) (.tv 1 false (.int .i64)) (.tv 5 false (.int .i64)) (.tv 4 false (.int .i64)) -/
def st_laws_markFloat32S_0 (M : FOps) (v0 : (List Nat)) (v1 : Int) (v2 : Int) (v3 : Int) : Option (((List Nat) × Int × Int × Int × Unit) ⊕ (Int × Int × (List Nat) × Unit)) :=
  (brT (decide (v2 < (↑v0.length : Int))) (brT (decide (0 ≤ v2) && decide (v2 < (↑v0.length : Int))) (brT (v2.toNat.blt v0.length && true) (brT (v0.length.beq (v0.set v2.toNat (M.ofi FloatKind.f32 v1)).length && true) (some (.inl (v0.set v2.toNat (M.ofi FloatKind.f32 v1), (IntKind.i64.wrap (v1 + 1), (IntKind.i64.wrap (v2 + 1), (v3, ())))))) none) none) none) (some (.inr (v1, (v3, (v0, ()))))))
def W_laws_markFloat32S_0 (M : FOps) : ((List Nat) × Int × Int × Int × Unit) → Option (Int × Int × (List Nat) × Unit) := runW (fun x => st_laws_markFloat32S_0 M x.1 x.2.1 x.2.2.1 x.2.2.2.1)
def L_laws_markFloat32S_0 (M : FOps) : LSpec := mkL (.cons (.to 0 0 (.fl .f32)) (.cons (.tv 1 false (.int .i64)) (.cons (.tv 5 false (.int .i64)) (.cons (.tv 4 false (.int .i64)) .nil)))) [((.exit 0), (.cons (.tv 1 false (.int .i64)) (.cons (.tv 4 false (.int .i64)) (.cons (.ar 0 (.fl .f32)) .nil))))] 1 1 (W_laws_markFloat32S_0 M)
def c0_laws_markFloat32S (M : FOps) (a0 : (List Nat)) (a1 : Int) : Option (Int × Int × List Nat × Unit) := W_laws_markFloat32S_0 M (a0, a1, 0, 0, ())
def F_laws_markFloat32S (r : Int × (List Nat)) : AS.Ty (.cons (.one (.int .i64)) .nil) × List CS := ((r.1, ()), [.arr (.fl .f32) r.2])
def p_laws_markFloat32S (M : FOps) (a0 : (List Nat)) (a1 : Int) : Int × (List Nat) :=
  (((c0_laws_markFloat32S M a0 a1).getD (0, 0, [], ())).fst, ((c0_laws_markFloat32S M a0 a1).getD (0, 0, [], ())).snd.snd.fst)
def r_laws_markFloat32S (M : FOps) (a0 : (List Nat)) (a1 : Int) : Bool :=
  ((a0.length.beq a0.length && true) && (((c0_laws_markFloat32S M a0 a1).isSome) && true))
def S_laws_markFloat32S (M : FOps) : FSpec := mkSpec (.cons (.own (.fl .f32)) (.cons (.one (.int .i64)) .nil)) (.cons (.one (.int .i64)) .nil) (fun x => r_laws_markFloat32S M x.1 x.2.1) (fun x => F_laws_markFloat32S (p_laws_markFloat32S M x.1 x.2.1))

/-- laws.heldFloat32S, loop 0: (.tv 0 true (.ls (.fl .f32))) (.tv 1 false (.int .i64)) (.tv 5 false (.int .i64)) (.tv 4 false (.int .i64)) -/
def st_laws_heldFloat32S_0 (M : FOps) (v0 : (List Nat)) (v1 : Int) (v2 : Int) (v3 : Int) : Option (((List Nat) × Int × Int × Int × Unit) ⊕ ((Int × Unit) ⊕ (Int × Int × Unit))) :=
  (brT (decide (v2 < (↑v0.length : Int))) (brT (decide (0 ≤ v2) && decide (v2 < (↑v0.length : Int))) (brT (M.cmp BinOp.neq FloatKind.f32 (v0.getD v2.toNat 0) (M.ofi FloatKind.f32 v1)) (some (.inr (.inl (Int.negSucc 0, ())))) (some (.inl (v0, (IntKind.i64.wrap (v1 + 1), (IntKind.i64.wrap (v2 + 1), (v3, ()))))))) none) (some (.inr (.inr (v1, (v3, ()))))))
def W_laws_heldFloat32S_0 (M : FOps) : ((List Nat) × Int × Int × Int × Unit) → Option ((Int × Unit) ⊕ (Int × Int × Unit)) := runW (fun x => st_laws_heldFloat32S_0 M x.1 x.2.1 x.2.2.1 x.2.2.2.1)
def L_laws_heldFloat32S_0 (M : FOps) : LSpec := mkL (.cons (.tv 0 true (.ls (.fl .f32))) (.cons (.tv 1 false (.int .i64)) (.cons (.tv 5 false (.int .i64)) (.cons (.tv 4 false (.int .i64)) .nil)))) [(.ret, (.cons (.tv 4 false (.int .i64)) .nil)), ((.exit 0), (.cons (.tv 1 false (.int .i64)) (.cons (.tv 4 false (.int .i64)) .nil)))] 0 0 (W_laws_heldFloat32S_0 M)
def c0_laws_heldFloat32S (M : FOps) (a0 : (List Nat)) (a1 : Int) : Option (Int × Unit ⊕ Int × Int × Unit) := W_laws_heldFloat32S_0 M (a0, a1, 0, 0, ())
def F_laws_heldFloat32S (r : Int) : AS.Ty (.cons (.one (.int .i64)) .nil) × List CS := ((r, ()), [])
def p_laws_heldFloat32S (M : FOps) (a0 : (List Nat)) (a1 : Int) : Int :=
  (bif isL ((c0_laws_heldFloat32S M a0 a1).getD (Sum.inl (0, ()))) then (getL (0, ()) ((c0_laws_heldFloat32S M a0 a1).getD (Sum.inl (0, ())))).fst else (getR (0, 0, ()) ((c0_laws_heldFloat32S M a0 a1).getD (Sum.inl (0, ())))).fst)
def r_laws_heldFloat32S (M : FOps) (a0 : (List Nat)) (a1 : Int) : Bool :=
  (((c0_laws_heldFloat32S M a0 a1).isSome) && true)
def S_laws_heldFloat32S (M : FOps) : FSpec := mkSpec (.cons (.one (.ls (.fl .f32))) (.cons (.one (.int .i64)) .nil)) (.cons (.one (.int .i64)) .nil) (fun x => r_laws_heldFloat32S M x.1 x.2.1) (fun x => F_laws_heldFloat32S (p_laws_heldFloat32S M x.1 x.2.1))

def c0_laws_markGrid (M : FOps) (a0_0 : Int) (a0_1 : Int) (a0_2 : (List Nat)) (a1 : Int) : Int × List Nat := p_laws_markFloat32S M a0_2 a1
def F_laws_markGrid (r : Int × (List Nat)) : AS.Ty (.cons (.one (.int .i64)) .nil) × List CS := ((r.1, ()), [.arr (.fl .f32) r.2])
def p_laws_markGrid (M : FOps) (a0_0 : Int) (a0_1 : Int) (a0_2 : (List Nat)) (a1 : Int) : Int × (List Nat) :=
  ((c0_laws_markGrid M a0_0 a0_1 a0_2 a1).fst, (c0_laws_markGrid M a0_0 a0_1 a0_2 a1).snd)
def r_laws_markGrid (M : FOps) (a0_0 : Int) (a0_1 : Int) (a0_2 : (List Nat)) (a1 : Int) : Bool :=
  ((a0_2.length.beq a0_2.length && true && r_laws_markFloat32S M a0_2 a1) && true)
def S_laws_markGrid (M : FOps) : FSpec := mkSpec (.cons (.ao (.pair (.int .i64) (.int .i64)) (.fl .f32)) (.cons (.one (.int .i64)) .nil)) (.cons (.one (.int .i64)) .nil) (fun x => r_laws_markGrid M x.1.1.1 x.1.1.2 x.1.2 x.2.1) (fun x => F_laws_markGrid (p_laws_markGrid M x.1.1.1 x.1.1.2 x.1.2 x.2.1))

def c0_laws_heldGrid (M : FOps) (a0_0 : Int) (a0_1 : Int) (a0_2 : (List Nat)) (a1 : Int) : Int := p_laws_heldFloat32S M a0_2 a1
def F_laws_heldGrid (r : Int) : AS.Ty (.cons (.one (.int .i64)) .nil) × List CS := ((r, ()), [])
def p_laws_heldGrid (M : FOps) (a0_0 : Int) (a0_1 : Int) (a0_2 : (List Nat)) (a1 : Int) : Int :=
  (bif decide ((c0_laws_heldGrid M a0_0 a0_1 a0_2 a1) < 0) then Int.negSucc 0 else (c0_laws_heldGrid M a0_0 a0_1 a0_2 a1))
def r_laws_heldGrid (M : FOps) (a0_0 : Int) (a0_1 : Int) (a0_2 : (List Nat)) (a1 : Int) : Bool :=
  ((r_laws_heldFloat32S M a0_2 a1) && true)
def S_laws_heldGrid (M : FOps) : FSpec := mkSpec (.cons (.agg (.pair (.int .i64) (.pair (.int .i64) (.ls (.fl .f32))))) (.cons (.one (.int .i64)) .nil)) (.cons (.one (.int .i64)) .nil) (fun x => r_laws_heldGrid M x.1.1 x.1.2.1 x.1.2.2 x.2.1) (fun x => F_laws_heldGrid (p_laws_heldGrid M x.1.1 x.1.2.1 x.1.2.2 x.2.1))

def c0_laws_FnExactReadGrid (M : FOps) (a0 : ByteArray) : Int × Int × List Nat × Bool := p_impl_ReadGrid M a0
def c1_laws_FnExactReadGrid (M : FOps) (a0 : ByteArray) : Int × Int × List Nat × Bool := p_spec_ReadGrid M a0
def c2_laws_FnExactReadGrid (M : FOps) (a0 : ByteArray) : Int × List Nat := p_laws_markGrid M (c0_laws_FnExactReadGrid M a0).fst (c0_laws_FnExactReadGrid M a0).snd.fst (c0_laws_FnExactReadGrid M a0).snd.snd.fst 1
def c3_laws_FnExactReadGrid (M : FOps) (a0 : ByteArray) : Int := p_laws_heldGrid M (c0_laws_FnExactReadGrid M a0).fst (c0_laws_FnExactReadGrid M a0).snd.fst (c2_laws_FnExactReadGrid M a0).snd 1
def F_laws_FnExactReadGrid (r : Bool) : AS.Ty (.cons (.one .bool) .nil) × List CS := ((r, ()), [])
def p_laws_FnExactReadGrid (M : FOps) (a0 : ByteArray) : Bool :=
  (bif decide ((↑a0.size : Int) > 1048576) then true else (bif !p_laws_eqGrid M (c0_laws_FnExactReadGrid M a0).fst (c0_laws_FnExactReadGrid M a0).snd.fst (c0_laws_FnExactReadGrid M a0).snd.snd.fst (c1_laws_FnExactReadGrid M a0).fst (c1_laws_FnExactReadGrid M a0).snd.fst (c1_laws_FnExactReadGrid M a0).snd.snd.fst then false else (bif (c0_laws_FnExactReadGrid M a0).snd.snd.snd != (c1_laws_FnExactReadGrid M a0).snd.snd.snd then false else (bif decide ((c3_laws_FnExactReadGrid M a0) < 0) then false else (bif (c3_laws_FnExactReadGrid M a0) != (c2_laws_FnExactReadGrid M a0).fst then false else (bif !p_laws_eqGrid M (c0_laws_FnExactReadGrid M a0).fst (c0_laws_FnExactReadGrid M a0).snd.fst (c0_laws_FnExactReadGrid M a0).snd.snd.fst (c1_laws_FnExactReadGrid M a0).fst (c1_laws_FnExactReadGrid M a0).snd.fst (c1_laws_FnExactReadGrid M a0).snd.snd.fst then false else (bif (c0_laws_FnExactReadGrid M a0).snd.snd.snd != (c1_laws_FnExactReadGrid M a0).snd.snd.snd then false else (bif decide ((c3_laws_FnExactReadGrid M a0) < 0) then false else (bif (c3_laws_FnExactReadGrid M a0) != (c2_laws_FnExactReadGrid M a0).fst then false else true)))))))))
def r_laws_FnExactReadGrid (M : FOps) (a0 : ByteArray) : Bool :=
  (bif decide ((↑a0.size : Int) > 1048576) then true else ((r_spec_ReadGrid M a0) && ((r_impl_ReadGrid M a0) && (((c0_laws_FnExactReadGrid M a0).snd.snd.fst.length.beq (c0_laws_FnExactReadGrid M a0).snd.snd.fst.length && ((c1_laws_FnExactReadGrid M a0).snd.snd.fst.length.beq (c1_laws_FnExactReadGrid M a0).snd.snd.fst.length && true) && r_laws_eqGrid M (c0_laws_FnExactReadGrid M a0).fst (c0_laws_FnExactReadGrid M a0).snd.fst (c0_laws_FnExactReadGrid M a0).snd.snd.fst (c1_laws_FnExactReadGrid M a0).fst (c1_laws_FnExactReadGrid M a0).snd.fst (c1_laws_FnExactReadGrid M a0).snd.snd.fst) && (bif !p_laws_eqGrid M (c0_laws_FnExactReadGrid M a0).fst (c0_laws_FnExactReadGrid M a0).snd.fst (c0_laws_FnExactReadGrid M a0).snd.snd.fst (c1_laws_FnExactReadGrid M a0).fst (c1_laws_FnExactReadGrid M a0).snd.fst (c1_laws_FnExactReadGrid M a0).snd.snd.fst then true else (bif (c0_laws_FnExactReadGrid M a0).snd.snd.snd != (c1_laws_FnExactReadGrid M a0).snd.snd.snd then true else (((c0_laws_FnExactReadGrid M a0).snd.snd.fst.length.beq (c0_laws_FnExactReadGrid M a0).snd.snd.fst.length && true && r_laws_markGrid M (c0_laws_FnExactReadGrid M a0).fst (c0_laws_FnExactReadGrid M a0).snd.fst (c0_laws_FnExactReadGrid M a0).snd.snd.fst 1) && (((c0_laws_FnExactReadGrid M a0).snd.snd.fst.length.beq (c2_laws_FnExactReadGrid M a0).snd.length && true && r_laws_heldGrid M (c0_laws_FnExactReadGrid M a0).fst (c0_laws_FnExactReadGrid M a0).snd.fst (c2_laws_FnExactReadGrid M a0).snd 1) && (bif decide ((c3_laws_FnExactReadGrid M a0) < 0) then true else (bif (c3_laws_FnExactReadGrid M a0) != (c2_laws_FnExactReadGrid M a0).fst then true else ((r_impl_ReadGrid M a0) && (((c0_laws_FnExactReadGrid M a0).snd.snd.fst.length.beq (c0_laws_FnExactReadGrid M a0).snd.snd.fst.length && ((c1_laws_FnExactReadGrid M a0).snd.snd.fst.length.beq (c1_laws_FnExactReadGrid M a0).snd.snd.fst.length && true) && r_laws_eqGrid M (c0_laws_FnExactReadGrid M a0).fst (c0_laws_FnExactReadGrid M a0).snd.fst (c0_laws_FnExactReadGrid M a0).snd.snd.fst (c1_laws_FnExactReadGrid M a0).fst (c1_laws_FnExactReadGrid M a0).snd.fst (c1_laws_FnExactReadGrid M a0).snd.snd.fst) && (bif !p_laws_eqGrid M (c0_laws_FnExactReadGrid M a0).fst (c0_laws_FnExactReadGrid M a0).snd.fst (c0_laws_FnExactReadGrid M a0).snd.snd.fst (c1_laws_FnExactReadGrid M a0).fst (c1_laws_FnExactReadGrid M a0).snd.fst (c1_laws_FnExactReadGrid M a0).snd.snd.fst then true else (bif (c0_laws_FnExactReadGrid M a0).snd.snd.snd != (c1_laws_FnExactReadGrid M a0).snd.snd.snd then true else (((c0_laws_FnExactReadGrid M a0).snd.snd.fst.length.beq (c2_laws_FnExactReadGrid M a0).snd.length && true && r_laws_heldGrid M (c0_laws_FnExactReadGrid M a0).fst (c0_laws_FnExactReadGrid M a0).snd.fst (c2_laws_FnExactReadGrid M a0).snd 1) && true)))))))))))))))
def S_laws_FnExactReadGrid (M : FOps) : FSpec := mkSpec (.cons (.one .str) .nil) (.cons (.one .bool) .nil) (fun x => r_laws_FnExactReadGrid M x.1) (fun x => F_laws_FnExactReadGrid (p_laws_FnExactReadGrid M x.1))

end
end Go.Dv
