/- Printed by gen2.py. -/
import Derived.Test.YtgfplcpjnlignaaDoorLhe

set_option linter.unusedVariables false
set_option linter.unusedSimpArgs false

-- GENERATED BELOW (gen.py)
namespace Go.Dv
open Go.Cv
noncomputable section
/-- spec.StoreTracks, loop 0: (.tv 0 true (.ls (.pair .str (.ls (.pair (.fl .f32) (.fl .f32)))))) (.tv 4 false .str) (.tv 10 false (.int .i64)) (.tv 11 false (.int .i64)) (.tv 2 false .str) (.tv 3 false .bool) -/
def st_spec_StoreTracks_0 (M : FOps) (v0 : (List (ByteArray × (List (Nat × Nat))))) (v1 : ByteArray) (v2 : Int) (v3 : Int) (v4 : ByteArray) (v5 : Bool) : Option (((List (ByteArray × (List (Nat × Nat)))) × ByteArray × Int × Int × ByteArray × Bool × Unit) ⊕ ((ByteArray × Bool × Unit) ⊕ (ByteArray × ByteArray × Bool × Unit))) :=
  (brT (decide (v3 < v2)) (brT (decide (0 ≤ v3) && decide (v3 < (↑v0.length : Int))) (brT (r_spec_l07Track M (v0.getD v3.toNat ((ByteArray.mk #[]), ([] : List (Nat × Nat)))).fst (v0.getD v3.toNat ((ByteArray.mk #[]), ([] : List (Nat × Nat)))).snd) (brT (!p_spec_l07Track M (v0.getD v3.toNat ((ByteArray.mk #[]), ([] : List (Nat × Nat)))).fst (v0.getD v3.toNat ((ByteArray.mk #[]), ([] : List (Nat × Nat)))).snd) (some (.inr (.inl ((ByteArray.mk #[]), (false, ()))))) (brT (decide (0 ≤ v3) && decide (v3 < (↑v0.length : Int))) (brT (r_spec_l07Store M (v0.getD v3.toNat ((ByteArray.mk #[]), ([] : List (Nat × Nat)))).fst (v0.getD v3.toNat ((ByteArray.mk #[]), ([] : List (Nat × Nat)))).snd) (brT ((v1.size + (p_spec_l07Store M (v0.getD v3.toNat ((ByteArray.mk #[]), ([] : List (Nat × Nat)))).fst (v0.getD v3.toNat ((ByteArray.mk #[]), ([] : List (Nat × Nat)))).snd).size).ble 4611686018427387904) (some (.inl (v0, (v1 ++ p_spec_l07Store M (v0.getD v3.toNat ((ByteArray.mk #[]), ([] : List (Nat × Nat)))).fst (v0.getD v3.toNat ((ByteArray.mk #[]), ([] : List (Nat × Nat)))).snd, (v2, (IntKind.i64.wrap (v3 + 1), (v4, (v5, ())))))))) none) none) none)) none) none) (some (.inr (.inr (v1, (v4, (v5, ())))))))
def W_spec_StoreTracks_0 (M : FOps) : ((List (ByteArray × (List (Nat × Nat)))) × ByteArray × Int × Int × ByteArray × Bool × Unit) → Option ((ByteArray × Bool × Unit) ⊕ (ByteArray × ByteArray × Bool × Unit)) := runW (fun x => st_spec_StoreTracks_0 M x.1 x.2.1 x.2.2.1 x.2.2.2.1 x.2.2.2.2.1 x.2.2.2.2.2.1)
def c0_spec_StoreTracks (M : FOps) (a0 : (List (ByteArray × (List (Nat × Nat))))) : Option (ByteArray × Bool × Unit ⊕ ByteArray × ByteArray × Bool × Unit) := W_spec_StoreTracks_0 M (a0, (ByteArray.mk #[]), (↑a0.length : Int), 0, (ByteArray.mk #[]), false, ())
def p_spec_StoreTracks (M : FOps) (a0 : (List (ByteArray × (List (Nat × Nat))))) : ByteArray × Bool :=
  (bif decide ((↑a0.length : Int) > 8) then ((ByteArray.mk #[]), false) else (bif isL ((c0_spec_StoreTracks M a0).getD (Sum.inl ((ByteArray.mk #[]), false, ()))) then ((getL ((ByteArray.mk #[]), false, ()) ((c0_spec_StoreTracks M a0).getD (Sum.inl ((ByteArray.mk #[]), false, ())))).fst, (getL ((ByteArray.mk #[]), false, ()) ((c0_spec_StoreTracks M a0).getD (Sum.inl ((ByteArray.mk #[]), false, ())))).snd.fst) else ((getR ((ByteArray.mk #[]), (ByteArray.mk #[]), false, ()) ((c0_spec_StoreTracks M a0).getD (Sum.inl ((ByteArray.mk #[]), false, ())))).fst, true)))
def r_spec_StoreTracks (M : FOps) (a0 : (List (ByteArray × (List (Nat × Nat))))) : Bool :=
  (bif decide ((↑a0.length : Int) > 8) then true else (((c0_spec_StoreTracks M a0).isSome) && true))
def F_impl_areAll_impl_Track_1 (r : Bool) : AS.Ty (.cons (.one .bool) .nil) × List CS := ((r, ()), [])
def p_impl_areAll_impl_Track_1 (M : FOps) (a0_0 : ByteArray) (a0_1 : (List (Nat × Nat))) : Bool :=
  !p_impl_ValidTrack M a0_0 a0_1
def r_impl_areAll_impl_Track_1 (M : FOps) (a0_0 : ByteArray) (a0_1 : (List (Nat × Nat))) : Bool :=
  ((r_impl_ValidTrack M a0_0 a0_1) && true)
def S_impl_areAll_impl_Track_1 (M : FOps) : FSpec := mkSpec (.cons (.agg (.pair .str (.ls (.pair (.fl .f32) (.fl .f32))))) (.cons (.pf 9) .nil)) (.cons (.one .bool) .nil) (fun x => r_impl_areAll_impl_Track_1 M x.1.1 x.1.2) (fun x => F_impl_areAll_impl_Track_1 (p_impl_areAll_impl_Track_1 M x.1.1 x.1.2))

/-- slices.IndexFunc[[]impl.Track,impl.Track], loop 0: (.tv 0 true (.ls (.pair .str (.ls (.pair (.fl .f32) (.fl .f32)))))) (.tg 1 61 [(.f 9)]) (.tv 7 false (.int .i64)) (.tv 8 false (.int .i64)) (.tv 4 false (.int .i64)) -/
def st_slices_IndexFunc_impl_Track_impl_Track_k_0 (M : FOps) (v0 : (List (ByteArray × (List (Nat × Nat))))) (v1 : Int) (v2 : Int) (v3 : Int) : Option (((List (ByteArray × (List (Nat × Nat)))) × (Unit × Unit) × Int × Int × Int × Unit) ⊕ ((Int × Unit) ⊕ (Int × Unit))) :=
  (brT (decide (v2 < v1)) (brT (decide (0 ≤ v2) && decide (v2 < (↑v0.length : Int))) (brT (r_impl_areAll_impl_Track_1 M (v0.getD v2.toNat ((ByteArray.mk #[]), ([] : List (Nat × Nat)))).fst (v0.getD v2.toNat ((ByteArray.mk #[]), ([] : List (Nat × Nat)))).snd) (brT (p_impl_areAll_impl_Track_1 M (v0.getD v2.toNat ((ByteArray.mk #[]), ([] : List (Nat × Nat)))).fst (v0.getD v2.toNat ((ByteArray.mk #[]), ([] : List (Nat × Nat)))).snd) (some (.inr (.inl (v2, ())))) (some (.inl (v0, (((), ()), (v1, (IntKind.i64.wrap (v2 + 1), (v3, ())))))))) none) none) (some (.inr (.inr (v3, ())))))
def W_slices_IndexFunc_impl_Track_impl_Track_k_0 (M : FOps) : ((List (ByteArray × (List (Nat × Nat)))) × (Unit × Unit) × Int × Int × Int × Unit) → Option ((Int × Unit) ⊕ (Int × Unit)) := runW (fun x => st_slices_IndexFunc_impl_Track_impl_Track_k_0 M x.1 x.2.2.1 x.2.2.2.1 x.2.2.2.2.1)
def L_slices_IndexFunc_impl_Track_impl_Track_k_0 (M : FOps) : LSpec := mkL (.cons (.tv 0 true (.ls (.pair .str (.ls (.pair (.fl .f32) (.fl .f32)))))) (.cons (.tg 1 61 [(.f 9)]) (.cons (.tv 7 false (.int .i64)) (.cons (.tv 8 false (.int .i64)) (.cons (.tv 4 false (.int .i64)) .nil))))) [(.ret, (.cons (.tv 4 false (.int .i64)) .nil)), ((.exit 0), (.cons (.tv 4 false (.int .i64)) .nil))] 0 0 (W_slices_IndexFunc_impl_Track_impl_Track_k_0 M)
def c0_slices_IndexFunc_impl_Track_impl_Track_k (M : FOps) (a0 : (List (ByteArray × (List (Nat × Nat))))) : Option (Int × Unit ⊕ Int × Unit) := W_slices_IndexFunc_impl_Track_impl_Track_k_0 M (a0, ((), ()), (↑a0.length : Int), 0, 0, ())
def F_slices_IndexFunc_impl_Track_impl_Track_k (r : Int) : AS.Ty (.cons (.one (.int .i64)) .nil) × List CS := ((r, ()), [])
def p_slices_IndexFunc_impl_Track_impl_Track_k (M : FOps) (a0 : (List (ByteArray × (List (Nat × Nat))))) : Int :=
  (bif isL ((c0_slices_IndexFunc_impl_Track_impl_Track_k M a0).getD (Sum.inl (0, ()))) then (getL (0, ()) ((c0_slices_IndexFunc_impl_Track_impl_Track_k M a0).getD (Sum.inl (0, ())))).fst else Int.negSucc 0)
def r_slices_IndexFunc_impl_Track_impl_Track_k (M : FOps) (a0 : (List (ByteArray × (List (Nat × Nat))))) : Bool :=
  (((c0_slices_IndexFunc_impl_Track_impl_Track_k M a0).isSome) && true)
def S_slices_IndexFunc_impl_Track_impl_Track_k (M : FOps) : FSpec := mkSpec (.cons (.one (.ls (.pair .str (.ls (.pair (.fl .f32) (.fl .f32)))))) (.cons (.fn 61 (.cons (.pf 9) .nil)) .nil)) (.cons (.one (.int .i64)) .nil) (fun x => r_slices_IndexFunc_impl_Track_impl_Track_k M x.1) (fun x => F_slices_IndexFunc_impl_Track_impl_Track_k (p_slices_IndexFunc_impl_Track_impl_Track_k M x.1))

def c0_slices_ContainsFunc_impl_Track_impl_Track_k (M : FOps) (a0 : (List (ByteArray × (List (Nat × Nat))))) : Int := p_slices_IndexFunc_impl_Track_impl_Track_k M a0
def F_slices_ContainsFunc_impl_Track_impl_Track_k (r : Bool) : AS.Ty (.cons (.one .bool) .nil) × List CS := ((r, ()), [])
def p_slices_ContainsFunc_impl_Track_impl_Track_k (M : FOps) (a0 : (List (ByteArray × (List (Nat × Nat))))) : Bool :=
  decide ((c0_slices_ContainsFunc_impl_Track_impl_Track_k M a0) ≥ 0)
def r_slices_ContainsFunc_impl_Track_impl_Track_k (M : FOps) (a0 : (List (ByteArray × (List (Nat × Nat))))) : Bool :=
  ((r_slices_IndexFunc_impl_Track_impl_Track_k M a0) && true)
def S_slices_ContainsFunc_impl_Track_impl_Track_k (M : FOps) : FSpec := mkSpec (.cons (.one (.ls (.pair .str (.ls (.pair (.fl .f32) (.fl .f32)))))) (.cons (.fn 61 (.cons (.pf 9) .nil)) .nil)) (.cons (.one .bool) .nil) (fun x => r_slices_ContainsFunc_impl_Track_impl_Track_k M x.1) (fun x => F_slices_ContainsFunc_impl_Track_impl_Track_k (p_slices_ContainsFunc_impl_Track_impl_Track_k M x.1))

def F_impl_areAll_impl_Track (r : Bool) : AS.Ty (.cons (.one .bool) .nil) × List CS := ((r, ()), [])
def p_impl_areAll_impl_Track (M : FOps) (a0 : (List (ByteArray × (List (Nat × Nat))))) : Bool :=
  !p_slices_ContainsFunc_impl_Track_impl_Track_k M a0
def r_impl_areAll_impl_Track (M : FOps) (a0 : (List (ByteArray × (List (Nat × Nat))))) : Bool :=
  ((r_slices_ContainsFunc_impl_Track_impl_Track_k M a0) && true)
def S_impl_areAll_impl_Track (M : FOps) : FSpec := mkSpec (.cons (.one (.ls (.pair .str (.ls (.pair (.fl .f32) (.fl .f32)))))) (.cons (.fn 9 .nil) .nil)) (.cons (.one .bool) .nil) (fun x => r_impl_areAll_impl_Track M x.1) (fun x => F_impl_areAll_impl_Track (p_impl_areAll_impl_Track M x.1))

/-- impl.StoreTracks, loop 0: (.tv 4 false .str) (.tv 15 true (.ls (.pair .str (.ls (.pair (.fl .f32) (.fl .f32)))))) (.tv 16 false (.int .i64)) (.tv 17 false (.int .i64)) (.tv 2 false .str) (.tv 3 false .bool) -/
def st_impl_StoreTracks_0 (M : FOps) (v0 : ByteArray) (v1 : (List (ByteArray × (List (Nat × Nat))))) (v2 : Int) (v3 : Int) (v4 : ByteArray) (v5 : Bool) : Option ((ByteArray × (List (ByteArray × (List (Nat × Nat)))) × Int × Int × ByteArray × Bool × Unit) ⊕ (ByteArray × ByteArray × Bool × Unit)) :=
  (brT (decide (v3 < v2)) (brT (decide (0 ≤ v3) && decide (v3 < (↑v1.length : Int))) (brT (r_impl_trackBytes M (v1.getD v3.toNat ((ByteArray.mk #[]), ([] : List (Nat × Nat)))).fst (v1.getD v3.toNat ((ByteArray.mk #[]), ([] : List (Nat × Nat)))).snd) (brT ((v0.size + (p_impl_trackBytes M (v1.getD v3.toNat ((ByteArray.mk #[]), ([] : List (Nat × Nat)))).fst (v1.getD v3.toNat ((ByteArray.mk #[]), ([] : List (Nat × Nat)))).snd).size).ble 4611686018427387904) (some (.inl (v0 ++ p_impl_trackBytes M (v1.getD v3.toNat ((ByteArray.mk #[]), ([] : List (Nat × Nat)))).fst (v1.getD v3.toNat ((ByteArray.mk #[]), ([] : List (Nat × Nat)))).snd, (v1, (v2, (IntKind.i64.wrap (v3 + 1), (v4, (v5, ())))))))) none) none) none) (some (.inr (v0, (v4, (v5, ()))))))
def W_impl_StoreTracks_0 (M : FOps) : (ByteArray × (List (ByteArray × (List (Nat × Nat)))) × Int × Int × ByteArray × Bool × Unit) → Option (ByteArray × ByteArray × Bool × Unit) := runW (fun x => st_impl_StoreTracks_0 M x.1 x.2.1 x.2.2.1 x.2.2.2.1 x.2.2.2.2.1 x.2.2.2.2.2.1)
def L_impl_StoreTracks_0 (M : FOps) : LSpec := mkL (.cons (.tv 4 false .str) (.cons (.tv 15 true (.ls (.pair .str (.ls (.pair (.fl .f32) (.fl .f32)))))) (.cons (.tv 16 false (.int .i64)) (.cons (.tv 17 false (.int .i64)) (.cons (.tv 2 false .str) (.cons (.tv 3 false .bool) .nil)))))) [((.exit 0), (.cons (.tv 4 false .str) (.cons (.tv 2 false .str) (.cons (.tv 3 false .bool) .nil))))] 0 0 (W_impl_StoreTracks_0 M)
def c0_impl_StoreTracks (M : FOps) (a0 : (List (ByteArray × (List (Nat × Nat))))) : Option (ByteArray × ByteArray × Bool × Unit) := W_impl_StoreTracks_0 M ((ByteArray.mk #[]), a0, (↑a0.length : Int), 0, (ByteArray.mk #[]), false, ())
def F_impl_StoreTracks (r : ByteArray × Bool) : AS.Ty (.cons (.one .str) (.cons (.one .bool) .nil)) × List CS := ((r.1, (r.2, ())), [])
def p_impl_StoreTracks (M : FOps) (a0 : (List (ByteArray × (List (Nat × Nat))))) : ByteArray × Bool :=
  (bif decide ((↑a0.length : Int) > 8) then ((ByteArray.mk #[]), false) else (bif !p_impl_areAll_impl_Track M a0 then ((ByteArray.mk #[]), false) else (((c0_impl_StoreTracks M a0).getD ((ByteArray.mk #[]), (ByteArray.mk #[]), false, ())).fst, true)))
def r_impl_StoreTracks (M : FOps) (a0 : (List (ByteArray × (List (Nat × Nat))))) : Bool :=
  (bif decide ((↑a0.length : Int) > 8) then true else ((r_impl_areAll_impl_Track M a0) && (bif !p_impl_areAll_impl_Track M a0 then true else (((c0_impl_StoreTracks M a0).isSome) && true))))
def S_impl_StoreTracks (M : FOps) : FSpec := mkSpec (.cons (.one (.ls (.pair .str (.ls (.pair (.fl .f32) (.fl .f32)))))) .nil) (.cons (.one .str) (.cons (.one .bool) .nil)) (fun x => r_impl_StoreTracks M x.1) (fun x => F_impl_StoreTracks (p_impl_StoreTracks M x.1))

end
end Go.Dv
