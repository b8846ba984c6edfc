/- Printed by gen2.py. -/
import Derived.Test.YtgfplcpjnlignaaDoorZlp

set_option linter.unusedVariables false
set_option linter.unusedSimpArgs false

-- GENERATED BELOW (gen.py)
namespace Go.Dv
open Go.Cv
noncomputable section
/-- slices.EqualFunc[[]impl.Place,[]impl.Place,impl.Place,impl.Place], loop 0: (.tv 1 true (.ls (.pair (.fl .f32) (.fl .f32)))) (.tf 2 34) (.tv 15 true (.ls (.pair (.fl .f32) (.fl .f32)))) (.tv 16 false (.int .i64)) (.tv 17 false (.int .i64)) (.tv 6 false .bool) -/
def st_slices_EqualFunc_impl_Place_impl_Place_impl_Place_impl_Place_k_0 (M : FOps) (v0 : (List (Nat × Nat))) (v1 : (List (Nat × Nat))) (v2 : Int) (v3 : Int) (v4 : Bool) : Option (((List (Nat × Nat)) × Unit × (List (Nat × Nat)) × Int × Int × Bool × Unit) ⊕ ((Bool × Unit) ⊕ (Bool × Unit))) :=
  (brT (decide (v3 < v2)) (brT (decide (0 ≤ v3) && decide (v3 < (↑v1.length : Int))) (brT (decide (0 ≤ v3) && decide (v3 < (↑v0.length : Int))) (brT (r_impl_SamePlace M (v1.getD v3.toNat (0, 0)).fst (v1.getD v3.toNat (0, 0)).snd (v0.getD v3.toNat (0, 0)).fst (v0.getD v3.toNat (0, 0)).snd) (brT (!p_impl_SamePlace M (v1.getD v3.toNat (0, 0)).fst (v1.getD v3.toNat (0, 0)).snd (v0.getD v3.toNat (0, 0)).fst (v0.getD v3.toNat (0, 0)).snd) (some (.inr (.inl (false, ())))) (some (.inl (v0, ((), (v1, (v2, (IntKind.i64.wrap (v3 + 1), (v4, ()))))))))) none) none) none) (some (.inr (.inr (v4, ())))))
def W_slices_EqualFunc_impl_Place_impl_Place_impl_Place_impl_Place_k_0 (M : FOps) : ((List (Nat × Nat)) × Unit × (List (Nat × Nat)) × Int × Int × Bool × Unit) → Option ((Bool × Unit) ⊕ (Bool × Unit)) := runW (fun x => st_slices_EqualFunc_impl_Place_impl_Place_impl_Place_impl_Place_k_0 M x.1 x.2.2.1 x.2.2.2.1 x.2.2.2.2.1 x.2.2.2.2.2.1)
def L_slices_EqualFunc_impl_Place_impl_Place_impl_Place_impl_Place_k_0 (M : FOps) : LSpec := mkL (.cons (.tv 1 true (.ls (.pair (.fl .f32) (.fl .f32)))) (.cons (.tf 2 34) (.cons (.tv 15 true (.ls (.pair (.fl .f32) (.fl .f32)))) (.cons (.tv 16 false (.int .i64)) (.cons (.tv 17 false (.int .i64)) (.cons (.tv 6 false .bool) .nil)))))) [(.ret, (.cons (.tv 6 false .bool) .nil)), ((.exit 0), (.cons (.tv 6 false .bool) .nil))] 0 0 (W_slices_EqualFunc_impl_Place_impl_Place_impl_Place_impl_Place_k_0 M)
def c0_slices_EqualFunc_impl_Place_impl_Place_impl_Place_impl_Place_k (M : FOps) (a0 : (List (Nat × Nat))) (a1 : (List (Nat × Nat))) : Option (Bool × Unit ⊕ Bool × Unit) := W_slices_EqualFunc_impl_Place_impl_Place_impl_Place_impl_Place_k_0 M (a1, (), a0, (↑a0.length : Int), 0, false, ())
def F_slices_EqualFunc_impl_Place_impl_Place_impl_Place_impl_Place_k (r : Bool) : AS.Ty (.cons (.one .bool) .nil) × List CS := ((r, ()), [])
def p_slices_EqualFunc_impl_Place_impl_Place_impl_Place_impl_Place_k (M : FOps) (a0 : (List (Nat × Nat))) (a1 : (List (Nat × Nat))) : Bool :=
  (bif (↑a0.length : Int) != (↑a1.length : Int) then false else (bif isL ((c0_slices_EqualFunc_impl_Place_impl_Place_impl_Place_impl_Place_k M a0 a1).getD (Sum.inl (false, ()))) then (getL (false, ()) ((c0_slices_EqualFunc_impl_Place_impl_Place_impl_Place_impl_Place_k M a0 a1).getD (Sum.inl (false, ())))).fst else true))
def r_slices_EqualFunc_impl_Place_impl_Place_impl_Place_impl_Place_k (M : FOps) (a0 : (List (Nat × Nat))) (a1 : (List (Nat × Nat))) : Bool :=
  (bif (↑a0.length : Int) != (↑a1.length : Int) then true else (((c0_slices_EqualFunc_impl_Place_impl_Place_impl_Place_impl_Place_k M a0 a1).isSome) && true))
def S_slices_EqualFunc_impl_Place_impl_Place_impl_Place_impl_Place_k (M : FOps) : FSpec := mkSpec (.cons (.one (.ls (.pair (.fl .f32) (.fl .f32)))) (.cons (.one (.ls (.pair (.fl .f32) (.fl .f32)))) (.cons (.fn 34 .nil) .nil))) (.cons (.one .bool) .nil) (fun x => r_slices_EqualFunc_impl_Place_impl_Place_impl_Place_impl_Place_k M x.1 x.2.1) (fun x => F_slices_EqualFunc_impl_Place_impl_Place_impl_Place_impl_Place_k (p_slices_EqualFunc_impl_Place_impl_Place_impl_Place_impl_Place_k M x.1 x.2.1))

def F_impl_SameTracks_1 (r : Bool) : AS.Ty (.cons (.one .bool) .nil) × List CS := ((r, ()), [])
def p_impl_SameTracks_1 (M : FOps) (a0_0 : ByteArray) (a0_1 : (List (Nat × Nat))) (a1_0 : ByteArray) (a1_1 : (List (Nat × Nat))) : Bool :=
  (bif a0_0.toList == a1_0.toList then p_slices_EqualFunc_impl_Place_impl_Place_impl_Place_impl_Place_k M a0_1 a1_1 else false)
def r_impl_SameTracks_1 (M : FOps) (a0_0 : ByteArray) (a0_1 : (List (Nat × Nat))) (a1_0 : ByteArray) (a1_1 : (List (Nat × Nat))) : Bool :=
  (bif a0_0.toList == a1_0.toList then ((r_slices_EqualFunc_impl_Place_impl_Place_impl_Place_impl_Place_k M a0_1 a1_1) && true) else true)
def S_impl_SameTracks_1 (M : FOps) : FSpec := mkSpec (.cons (.agg (.pair .str (.ls (.pair (.fl .f32) (.fl .f32))))) (.cons (.agg (.pair .str (.ls (.pair (.fl .f32) (.fl .f32))))) .nil)) (.cons (.one .bool) .nil) (fun x => r_impl_SameTracks_1 M x.1.1 x.1.2 x.2.1.1 x.2.1.2) (fun x => F_impl_SameTracks_1 (p_impl_SameTracks_1 M x.1.1 x.1.2 x.2.1.1 x.2.1.2))

/-- slices.EqualFunc[[]impl.Track,[]impl.Track,impl.Track,impl.Track], loop 0: (.tv 1 true (.ls (.pair .str (.ls (.pair (.fl .f32) (.fl .f32)))))) (.tf 2 32) (.tv 15 true (.ls (.pair .str (.ls (.pair (.fl .f32) (.fl .f32)))))) (.tv 16 false (.int .i64)) (.tv 17 false (.int .i64)) (.tv 6 false .bool) -/
def st_slices_EqualFunc_impl_Track_impl_Track_impl_Track_impl_Track_k_0 (M : FOps) (v0 : (List (ByteArray × (List (Nat × Nat))))) (v1 : (List (ByteArray × (List (Nat × Nat))))) (v2 : Int) (v3 : Int) (v4 : Bool) : Option (((List (ByteArray × (List (Nat × Nat)))) × Unit × (List (ByteArray × (List (Nat × Nat)))) × Int × Int × Bool × Unit) ⊕ ((Bool × Unit) ⊕ (Bool × Unit))) :=
  (brT (decide (v3 < v2)) (brT (decide (0 ≤ v3) && decide (v3 < (↑v1.length : Int))) (brT (decide (0 ≤ v3) && decide (v3 < (↑v0.length : Int))) (brT (r_impl_SameTracks_1 M (v1.getD v3.toNat ((ByteArray.mk #[]), [])).fst (v1.getD v3.toNat ((ByteArray.mk #[]), [])).snd (v0.getD v3.toNat ((ByteArray.mk #[]), [])).fst (v0.getD v3.toNat ((ByteArray.mk #[]), [])).snd) (brT (!p_impl_SameTracks_1 M (v1.getD v3.toNat ((ByteArray.mk #[]), [])).fst (v1.getD v3.toNat ((ByteArray.mk #[]), [])).snd (v0.getD v3.toNat ((ByteArray.mk #[]), [])).fst (v0.getD v3.toNat ((ByteArray.mk #[]), [])).snd) (some (.inr (.inl (false, ())))) (some (.inl (v0, ((), (v1, (v2, (IntKind.i64.wrap (v3 + 1), (v4, ()))))))))) none) none) none) (some (.inr (.inr (v4, ())))))
def W_slices_EqualFunc_impl_Track_impl_Track_impl_Track_impl_Track_k_0 (M : FOps) : ((List (ByteArray × (List (Nat × Nat)))) × Unit × (List (ByteArray × (List (Nat × Nat)))) × Int × Int × Bool × Unit) → Option ((Bool × Unit) ⊕ (Bool × Unit)) := runW (fun x => st_slices_EqualFunc_impl_Track_impl_Track_impl_Track_impl_Track_k_0 M x.1 x.2.2.1 x.2.2.2.1 x.2.2.2.2.1 x.2.2.2.2.2.1)
def L_slices_EqualFunc_impl_Track_impl_Track_impl_Track_impl_Track_k_0 (M : FOps) : LSpec := mkL (.cons (.tv 1 true (.ls (.pair .str (.ls (.pair (.fl .f32) (.fl .f32)))))) (.cons (.tf 2 32) (.cons (.tv 15 true (.ls (.pair .str (.ls (.pair (.fl .f32) (.fl .f32)))))) (.cons (.tv 16 false (.int .i64)) (.cons (.tv 17 false (.int .i64)) (.cons (.tv 6 false .bool) .nil)))))) [(.ret, (.cons (.tv 6 false .bool) .nil)), ((.exit 0), (.cons (.tv 6 false .bool) .nil))] 0 0 (W_slices_EqualFunc_impl_Track_impl_Track_impl_Track_impl_Track_k_0 M)
def c0_slices_EqualFunc_impl_Track_impl_Track_impl_Track_impl_Track_k (M : FOps) (a0 : (List (ByteArray × (List (Nat × Nat))))) (a1 : (List (ByteArray × (List (Nat × Nat))))) : Option (Bool × Unit ⊕ Bool × Unit) := W_slices_EqualFunc_impl_Track_impl_Track_impl_Track_impl_Track_k_0 M (a1, (), a0, (↑a0.length : Int), 0, false, ())
def F_slices_EqualFunc_impl_Track_impl_Track_impl_Track_impl_Track_k (r : Bool) : AS.Ty (.cons (.one .bool) .nil) × List CS := ((r, ()), [])
def p_slices_EqualFunc_impl_Track_impl_Track_impl_Track_impl_Track_k (M : FOps) (a0 : (List (ByteArray × (List (Nat × Nat))))) (a1 : (List (ByteArray × (List (Nat × Nat))))) : Bool :=
  (bif (↑a0.length : Int) != (↑a1.length : Int) then false else (bif isL ((c0_slices_EqualFunc_impl_Track_impl_Track_impl_Track_impl_Track_k M a0 a1).getD (Sum.inl (false, ()))) then (getL (false, ()) ((c0_slices_EqualFunc_impl_Track_impl_Track_impl_Track_impl_Track_k M a0 a1).getD (Sum.inl (false, ())))).fst else true))
def r_slices_EqualFunc_impl_Track_impl_Track_impl_Track_impl_Track_k (M : FOps) (a0 : (List (ByteArray × (List (Nat × Nat))))) (a1 : (List (ByteArray × (List (Nat × Nat))))) : Bool :=
  (bif (↑a0.length : Int) != (↑a1.length : Int) then true else (((c0_slices_EqualFunc_impl_Track_impl_Track_impl_Track_impl_Track_k M a0 a1).isSome) && true))
def S_slices_EqualFunc_impl_Track_impl_Track_impl_Track_impl_Track_k (M : FOps) : FSpec := mkSpec (.cons (.one (.ls (.pair .str (.ls (.pair (.fl .f32) (.fl .f32)))))) (.cons (.one (.ls (.pair .str (.ls (.pair (.fl .f32) (.fl .f32)))))) (.cons (.fn 32 .nil) .nil))) (.cons (.one .bool) .nil) (fun x => r_slices_EqualFunc_impl_Track_impl_Track_impl_Track_impl_Track_k M x.1 x.2.1) (fun x => F_slices_EqualFunc_impl_Track_impl_Track_impl_Track_impl_Track_k (p_slices_EqualFunc_impl_Track_impl_Track_impl_Track_impl_Track_k M x.1 x.2.1))

def F_impl_SameTracks (r : Bool) : AS.Ty (.cons (.one .bool) .nil) × List CS := ((r, ()), [])
def p_impl_SameTracks (M : FOps) (a0 : (List (ByteArray × (List (Nat × Nat))))) (a1 : (List (ByteArray × (List (Nat × Nat))))) : Bool :=
  p_slices_EqualFunc_impl_Track_impl_Track_impl_Track_impl_Track_k M a0 a1
def r_impl_SameTracks (M : FOps) (a0 : (List (ByteArray × (List (Nat × Nat))))) (a1 : (List (ByteArray × (List (Nat × Nat))))) : Bool :=
  ((r_slices_EqualFunc_impl_Track_impl_Track_impl_Track_impl_Track_k M a0 a1) && true)
def S_impl_SameTracks (M : FOps) : FSpec := mkSpec (.cons (.one (.ls (.pair .str (.ls (.pair (.fl .f32) (.fl .f32)))))) (.cons (.one (.ls (.pair .str (.ls (.pair (.fl .f32) (.fl .f32)))))) .nil)) (.cons (.one .bool) .nil) (fun x => r_impl_SameTracks M x.1 x.2.1) (fun x => F_impl_SameTracks (p_impl_SameTracks M x.1 x.2.1))

end
end Go.Dv
