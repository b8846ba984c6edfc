/- Printed by gen2.py. -/
import Derived.Test.YtbgpobiaaebbeaaGreatDoorWko
import Derived.Test.YtbgpobiaaebbeaaGreatDoorWkq
import Derived.Test.YtbgpobiaaebbeaaGreatDoorWkc
import Derived.Test.YtbgpobiaaebbeaaGreatDoorEa

set_option linter.unusedVariables false
set_option linter.unusedSimpArgs false

-- GENERATED BELOW (gen.py)
namespace Go.Dv
open Go.Cv
noncomputable section
def F_impl_isValue (r : Bool) : AS.Ty (.cons (.one .bool) .nil) × List CS := ((r, ()), [])
def p_impl_isValue (M : FOps) (a0 : Int) : Bool :=
  p_impl_within M a0 (Int.negSucc 999999999999999) 1000000000000000
def S_impl_isValue (M : FOps) : FSpec := mkSpec (.cons (.one (.int .i64)) .nil) (.cons (.one .bool) .nil) (fun _ => true) (fun x => F_impl_isValue (p_impl_isValue M x.1))

def F_impl_Decimal_dec (r : ByteArray) : AS.Ty (.cons (.one .str) .nil) × List CS := ((r, ()), [])
def p_impl_Decimal_dec (M : FOps) (a0 : Int) : ByteArray :=
  p_strconv_FormatInt_dec M a0
def r_impl_Decimal_dec (M : FOps) (a0 : Int) : Bool :=
  ((r_strconv_FormatInt_dec M a0) && true)
def S_impl_Decimal_dec (M : FOps) : FSpec := mkSpec (.cons (.one (.int .i64)) .nil) (.cons (.one .str) .nil) (fun x => r_impl_Decimal_dec M x.1) (fun x => F_impl_Decimal_dec (p_impl_Decimal_dec M x.1))

def c0_impl_ReadDecimal (M : FOps) (a0 : ByteArray) : Int × Ifc := p_strconv_ParseInt_dec M a0
def F_impl_ReadDecimal (r : Int × Bool) : AS.Ty (.cons (.one (.int .i64)) (.cons (.one .bool) .nil)) × List CS := ((r.1, (r.2, ())), [])
def p_impl_ReadDecimal (M : FOps) (a0 : ByteArray) : Int × Bool :=
  (bif !p_isNil (c0_impl_ReadDecimal M a0).snd then (0, false) else (bif !p_impl_isValue M (c0_impl_ReadDecimal M a0).fst then (0, false) else (bif !(p_impl_Decimal_dec M (c0_impl_ReadDecimal M a0).fst).toList == a0.toList then (0, false) else ((c0_impl_ReadDecimal M a0).fst, true))))
def r_impl_ReadDecimal (M : FOps) (a0 : ByteArray) : Bool :=
  ((r_strconv_ParseInt_dec M a0) && (bif !p_isNil (c0_impl_ReadDecimal M a0).snd then true else (bif !p_impl_isValue M (c0_impl_ReadDecimal M a0).fst then true else ((r_impl_Decimal_dec M (c0_impl_ReadDecimal M a0).fst) && true))))
def S_impl_ReadDecimal (M : FOps) : FSpec := mkSpec (.cons (.one .str) .nil) (.cons (.one (.int .i64)) (.cons (.one .bool) .nil)) (fun x => r_impl_ReadDecimal M x.1) (fun x => F_impl_ReadDecimal (p_impl_ReadDecimal M x.1))

/-- impl.readTexts[int64], loop 0: (.tv 1 false (.int .i64)) (.tf 2 23) (.to 8 1 (.int .i64)) (.to 16 0 .str) (.tv 17 false (.int .i64)) (.tv 18 false (.int .i64)) (.to 6 2 (.int .i64)) (.tv 7 false .bool) -/
def st_impl_readTexts_int64_k_0 (M : FOps) (v0 : Int) (v1 : (List Int)) (v2 : (List ByteArray)) (v3 : Int) (v4 : Int) (v5 : (List Int)) (v6 : Bool) : Option ((Int × Unit × (List Int) × (List ByteArray) × Int × Int × (List Int) × Bool × Unit) ⊕ ((Unit × Bool × Unit) ⊕ ((List Int) × (List Int) × Bool × Unit))) :=
  (brT (decide (v4 < v3)) (brT (decide (0 ≤ v4) && decide (v4 < (↑v2.length : Int))) (brT (v4.toNat.blt v2.length && true) (brT (r_impl_ReadDecimal M (v2.getD v4.toNat (ByteArray.mk #[]))) (brT (!(p_impl_ReadDecimal M (v2.getD v4.toNat (ByteArray.mk #[]))).snd) (some (.inr (.inl ((), (false, ()))))) (brT ((↑v1.length : Int) == v0) (some (.inr (.inl ((), (false, ()))))) (brT (v1.length.beq v1.length && (v1.length + [(p_impl_ReadDecimal M (v2.getD v4.toNat (ByteArray.mk #[]))).fst].length).ble 1073741824) (brT ((v1 ++ [(p_impl_ReadDecimal M (v2.getD v4.toNat (ByteArray.mk #[]))).fst]).length.beq (v1 ++ [(p_impl_ReadDecimal M (v2.getD v4.toNat (ByteArray.mk #[]))).fst]).length && (v2.length.beq v2.length && (v5.length.beq v5.length && true))) (some (.inl (v0, ((), (v1 ++ [(p_impl_ReadDecimal M (v2.getD v4.toNat (ByteArray.mk #[]))).fst], (v2, (v3, (IntKind.i64.wrap (v4 + 1), (v5, (v6, ())))))))))) none) none))) none) none) none) (brT (v1.length.beq v1.length && (v5.length.beq v5.length && true)) (some (.inr (.inr (v1, (v5, (v6, ())))))) none))
def W_impl_readTexts_int64_k_0 (M : FOps) : (Int × Unit × (List Int) × (List ByteArray) × Int × Int × (List Int) × Bool × Unit) → Option ((Unit × Bool × Unit) ⊕ ((List Int) × (List Int) × Bool × Unit)) := runW (fun x => st_impl_readTexts_int64_k_0 M x.1 x.2.2.1 x.2.2.2.1 x.2.2.2.2.1 x.2.2.2.2.2.1 x.2.2.2.2.2.2.1 x.2.2.2.2.2.2.2.1)
def L_impl_readTexts_int64_k_0 (M : FOps) : LSpec := mkL (.cons (.tv 1 false (.int .i64)) (.cons (.tf 2 23) (.cons (.to 8 1 (.int .i64)) (.cons (.to 16 0 .str) (.cons (.tv 17 false (.int .i64)) (.cons (.tv 18 false (.int .i64)) (.cons (.to 6 2 (.int .i64)) (.cons (.tv 7 false .bool) .nil)))))))) [(.ret, (.cons (.tn 6) (.cons (.tv 7 false .bool) .nil))), ((.exit 0), (.cons (.to 8 1 (.int .i64)) (.cons (.to 6 2 (.int .i64)) (.cons (.tv 7 false .bool) .nil))))] 3 0 (W_impl_readTexts_int64_k_0 M)
def c0_impl_readTexts_int64_k (M : FOps) (a0 : ByteArray) (a1 : Int) : List ByteArray := p_strings_Split M a0 (ByteArray.mk #[44])
def c1_impl_readTexts_int64_k (M : FOps) (a0 : ByteArray) (a1 : Int) : Option (Unit × Bool × Unit ⊕ List Int × List Int × Bool × Unit) := W_impl_readTexts_int64_k_0 M (a1, (), [], (c0_impl_readTexts_int64_k M a0 a1), (↑(c0_impl_readTexts_int64_k M a0 a1).length : Int), 0, [], false, ())
def F_impl_readTexts_int64_k (r : (List Int) × Bool) : AS.Ty (.cons (.one (.ls (.int .i64))) (.cons (.one .bool) .nil)) × List CS := ((r.1, (r.2, ())), [])
def p_impl_readTexts_int64_k (M : FOps) (a0 : ByteArray) (a1 : Int) : (List Int) × Bool :=
  (bif a0.toList == (ByteArray.mk #[110, 111, 110, 101]).toList then ([], true) else (bif isL ((c1_impl_readTexts_int64_k M a0 a1).getD (Sum.inl ((), false, ()))) then ([], (getL ((), false, ()) ((c1_impl_readTexts_int64_k M a0 a1).getD (Sum.inl ((), false, ())))).snd.fst) else ((getR ([], [], false, ()) ((c1_impl_readTexts_int64_k M a0 a1).getD (Sum.inl ((), false, ())))).fst, true)))
def r_impl_readTexts_int64_k (M : FOps) (a0 : ByteArray) (a1 : Int) : Bool :=
  (bif a0.toList == (ByteArray.mk #[110, 111, 110, 101]).toList then true else ((r_strings_Split M a0 (ByteArray.mk #[44])) && (((c0_impl_readTexts_int64_k M a0 a1).length.beq (c0_impl_readTexts_int64_k M a0 a1).length && true) && (((c1_impl_readTexts_int64_k M a0 a1).isSome) && (bif isL ((c1_impl_readTexts_int64_k M a0 a1).getD (Sum.inl ((), false, ()))) then true else (((List.length (getR ([], [], false, ()) ((c1_impl_readTexts_int64_k M a0 a1).getD (Sum.inl ((), false, ())))).fst).beq (List.length (getR ([], [], false, ()) ((c1_impl_readTexts_int64_k M a0 a1).getD (Sum.inl ((), false, ())))).fst) && true) && true))))))
def S_impl_readTexts_int64_k (M : FOps) : FSpec := mkSpec (.cons (.one .str) (.cons (.one (.int .i64)) (.cons (.fn 23 .nil) .nil))) (.cons (.one (.ls (.int .i64))) (.cons (.one .bool) .nil)) (fun x => r_impl_readTexts_int64_k M x.1 x.2.1) (fun x => F_impl_readTexts_int64_k (p_impl_readTexts_int64_k M x.1 x.2.1))

def c0_impl_ReadList (M : FOps) (a0 : ByteArray) : List Int × Bool := p_impl_readTexts_int64_k M a0 64
def F_impl_ReadList (r : (List Int) × Bool) : AS.Ty (.cons (.one (.ls (.int .i64))) (.cons (.one .bool) .nil)) × List CS := ((r.1, (r.2, ())), [])
def p_impl_ReadList (M : FOps) (a0 : ByteArray) : (List Int) × Bool :=
  ((c0_impl_ReadList M a0).fst, (c0_impl_ReadList M a0).snd)
def r_impl_ReadList (M : FOps) (a0 : ByteArray) : Bool :=
  ((r_impl_readTexts_int64_k M a0 64) && (((c0_impl_ReadList M a0).fst.length.beq (c0_impl_ReadList M a0).fst.length && true) && true))
def S_impl_ReadList (M : FOps) : FSpec := mkSpec (.cons (.one .str) .nil) (.cons (.one (.ls (.int .i64))) (.cons (.one .bool) .nil)) (fun x => r_impl_ReadList M x.1) (fun x => F_impl_ReadList (p_impl_ReadList M x.1))

def c0_impl_ReadGrid (M : FOps) (a0 : ByteArray) : ByteArray × ByteArray × Bool := p_strings_Cut M a0 (ByteArray.mk #[59])
def c1_impl_ReadGrid (M : FOps) (a0 : ByteArray) : List Int × Bool := p_impl_ReadList M (c0_impl_ReadGrid M a0).fst
def c2_impl_ReadGrid (M : FOps) (a0 : ByteArray) : List Nat × Bool := p_impl_ReadNumbers M (c0_impl_ReadGrid M a0).snd.fst
def F_impl_ReadGrid (r : Int × Int × (List Nat) × Bool) : AS.Ty (.cons (.agg (.pair (.int .i64) (.pair (.int .i64) (.ls (.fl .f32))))) (.cons (.one .bool) .nil)) × List CS := (((r.1, (r.2.1, r.2.2.1)), (r.2.2.2, ())), [])
def p_impl_ReadGrid (M : FOps) (a0 : ByteArray) : Int × Int × (List Nat) × Bool :=
  (bif !(c1_impl_ReadGrid M a0).snd then (0, 0, [], false) else (bif !(c2_impl_ReadGrid M a0).snd then (0, 0, [], false) else (bif (↑(c1_impl_ReadGrid M a0).fst.length : Int) != 2 then (0, 0, [], false) else (bif !p_impl_ValidGrid M ((c1_impl_ReadGrid M a0).fst.getD 0 0) ((c1_impl_ReadGrid M a0).fst.getD 1 0) (c2_impl_ReadGrid M a0).fst then (0, 0, [], false) else ((c1_impl_ReadGrid M a0).fst.getD 0 0, (c1_impl_ReadGrid M a0).fst.getD 1 0, (c2_impl_ReadGrid M a0).fst, true)))))
def r_impl_ReadGrid (M : FOps) (a0 : ByteArray) : Bool :=
  ((r_strings_Cut M a0 (ByteArray.mk #[59])) && ((r_impl_ReadList M (c0_impl_ReadGrid M a0).fst) && ((r_impl_ReadNumbers M (c0_impl_ReadGrid M a0).snd.fst) && (bif !(c1_impl_ReadGrid M a0).snd then true else (bif !(c2_impl_ReadGrid M a0).snd then true else (bif (↑(c1_impl_ReadGrid M a0).fst.length : Int) != 2 then true else ((decide (0 < (↑(c1_impl_ReadGrid M a0).fst.length : Int))) && ((Nat.blt 0 (c1_impl_ReadGrid M a0).fst.length && true) && ((decide (1 < (↑(c1_impl_ReadGrid M a0).fst.length : Int))) && ((Nat.blt 1 (c1_impl_ReadGrid M a0).fst.length && true) && (((c2_impl_ReadGrid M a0).fst.length.beq (c2_impl_ReadGrid M a0).fst.length && true && r_impl_ValidGrid M ((c1_impl_ReadGrid M a0).fst.getD 0 0) ((c1_impl_ReadGrid M a0).fst.getD 1 0) (c2_impl_ReadGrid M a0).fst) && (bif !p_impl_ValidGrid M ((c1_impl_ReadGrid M a0).fst.getD 0 0) ((c1_impl_ReadGrid M a0).fst.getD 1 0) (c2_impl_ReadGrid M a0).fst then true else (((c2_impl_ReadGrid M a0).fst.length.beq (c2_impl_ReadGrid M a0).fst.length && true) && true)))))))))))))
def S_impl_ReadGrid (M : FOps) : FSpec := mkSpec (.cons (.one .str) .nil) (.cons (.agg (.pair (.int .i64) (.pair (.int .i64) (.ls (.fl .f32))))) (.cons (.one .bool) .nil)) (fun x => r_impl_ReadGrid M x.1) (fun x => F_impl_ReadGrid (p_impl_ReadGrid M x.1))

/-- spec.l01Value, loop 0: (.tv 0 false .str) (.tv 4 false (.int .i64)) (.tv 5 false (.int .i64)) (.tv 2 false (.int .i64)) (.tv 3 false .bool) -/
def st_spec_l01Value_0 (M : FOps) (v0 : ByteArray) (v1 : Int) (v2 : Int) (v3 : Int) (v4 : Bool) : Option ((ByteArray × Int × Int × Int × Bool × Unit) ⊕ (ByteArray × Int × Int × Bool × Unit)) :=
  (brT (decide (v2 < (↑v0.size : Int))) (brT (decide (0 ≤ v2) && decide (v2 < (↑v0.size : Int))) (brT (decide (p_byteAt v0 v2 ≥ 48)) (brT (decide (0 ≤ v2) && decide (v2 < (↑v0.size : Int))) (brT (decide (p_byteAt v0 v2 ≤ 57)) (brT (decide (0 ≤ v2) && decide (v2 < (↑v0.size : Int))) (some (.inl (v0, (IntKind.i64.wrap (IntKind.i64.wrap (10 * v1) + IntKind.i64.wrap (IntKind.u8.wrap (p_byteAt v0 v2 - 48))), (IntKind.i64.wrap (v2 + 1), (v3, (v4, ()))))))) none) (some (.inl (v0, (v1, (IntKind.i64.wrap (v2 + 1), (v3, (v4, ())))))))) none) (some (.inl (v0, (v1, (IntKind.i64.wrap (v2 + 1), (v3, (v4, ())))))))) none) (some (.inr (v0, (v1, (v3, (v4, ())))))))
def W_spec_l01Value_0 (M : FOps) : (ByteArray × Int × Int × Int × Bool × Unit) → Option (ByteArray × Int × Int × Bool × Unit) := runW (fun x => st_spec_l01Value_0 M x.1 x.2.1 x.2.2.1 x.2.2.2.1 x.2.2.2.2.1)
def L_spec_l01Value_0 (M : FOps) : LSpec := mkL (.cons (.tv 0 false .str) (.cons (.tv 4 false (.int .i64)) (.cons (.tv 5 false (.int .i64)) (.cons (.tv 2 false (.int .i64)) (.cons (.tv 3 false .bool) .nil))))) [((.exit 0), (.cons (.tv 0 false .str) (.cons (.tv 4 false (.int .i64)) (.cons (.tv 2 false (.int .i64)) (.cons (.tv 3 false .bool) .nil)))))] 0 0 (W_spec_l01Value_0 M)
def c0_spec_l01Value (M : FOps) (a0 : ByteArray) : Option (ByteArray × Int × Int × Bool × Unit) := W_spec_l01Value_0 M (a0, 0, 0, 0, false, ())
def F_spec_l01Value (r : Int × Bool) : AS.Ty (.cons (.one (.int .i64)) (.cons (.one .bool) .nil)) × List CS := ((r.1, (r.2, ())), [])
def p_spec_l01Value (M : FOps) (a0 : ByteArray) : Int × Bool :=
  (bif decide ((↑a0.size : Int) < 1) then (0, false) else (bif decide ((↑a0.size : Int) > 17) then (0, false) else (bif p_byteAt ((c0_spec_l01Value M a0).getD ((ByteArray.mk #[]), 0, 0, false, ())).fst 0 == 45 then (bif !p_spec_l00In M (IntKind.i64.wrap (0 - ((c0_spec_l01Value M a0).getD ((ByteArray.mk #[]), 0, 0, false, ())).snd.fst)) (Int.negSucc 999999999999999) 1000000000000000 then (0, false) else (bif !(p_spec_l01Dec M (IntKind.i64.wrap (0 - ((c0_spec_l01Value M a0).getD ((ByteArray.mk #[]), 0, 0, false, ())).snd.fst))).toList == ByteArray.toList ((c0_spec_l01Value M a0).getD ((ByteArray.mk #[]), 0, 0, false, ())).fst then (0, false) else (IntKind.i64.wrap (0 - ((c0_spec_l01Value M a0).getD ((ByteArray.mk #[]), 0, 0, false, ())).snd.fst), true))) else (bif !p_spec_l00In M ((c0_spec_l01Value M a0).getD ((ByteArray.mk #[]), 0, 0, false, ())).snd.fst (Int.negSucc 999999999999999) 1000000000000000 then (0, false) else (bif !(p_spec_l01Dec M ((c0_spec_l01Value M a0).getD ((ByteArray.mk #[]), 0, 0, false, ())).snd.fst).toList == ByteArray.toList ((c0_spec_l01Value M a0).getD ((ByteArray.mk #[]), 0, 0, false, ())).fst then (0, false) else (((c0_spec_l01Value M a0).getD ((ByteArray.mk #[]), 0, 0, false, ())).snd.fst, true))))))
def r_spec_l01Value (M : FOps) (a0 : ByteArray) : Bool :=
  (bif decide ((↑a0.size : Int) < 1) then true else (bif decide ((↑a0.size : Int) > 17) then true else (((c0_spec_l01Value M a0).isSome) && ((decide (0 < (↑(ByteArray.size ((c0_spec_l01Value M a0).getD ((ByteArray.mk #[]), 0, 0, false, ())).fst) : Int))) && (bif p_byteAt ((c0_spec_l01Value M a0).getD ((ByteArray.mk #[]), 0, 0, false, ())).fst 0 == 45 then (bif !p_spec_l00In M (IntKind.i64.wrap (0 - ((c0_spec_l01Value M a0).getD ((ByteArray.mk #[]), 0, 0, false, ())).snd.fst)) (Int.negSucc 999999999999999) 1000000000000000 then true else ((r_spec_l01Dec M (IntKind.i64.wrap (0 - ((c0_spec_l01Value M a0).getD ((ByteArray.mk #[]), 0, 0, false, ())).snd.fst))) && true)) else (bif !p_spec_l00In M ((c0_spec_l01Value M a0).getD ((ByteArray.mk #[]), 0, 0, false, ())).snd.fst (Int.negSucc 999999999999999) 1000000000000000 then true else ((r_spec_l01Dec M ((c0_spec_l01Value M a0).getD ((ByteArray.mk #[]), 0, 0, false, ())).snd.fst) && true)))))))
def S_spec_l01Value (M : FOps) : FSpec := mkSpec (.cons (.one .str) .nil) (.cons (.one (.int .i64)) (.cons (.one .bool) .nil)) (fun x => r_spec_l01Value M x.1) (fun x => F_spec_l01Value (p_spec_l01Value M x.1))

/-- spec.l01Numbers, loop 0: (.to 4 0 (.int .i64)) (.to 5 1 .str) (.tv 6 false (.int .i64)) (.to 2 2 (.int .i64)) (.tv 3 false .bool) -/
def st_spec_l01Numbers_0 (M : FOps) (v0 : (List Int)) (v1 : (List ByteArray)) (v2 : Int) (v3 : (List Int)) (v4 : Bool) : Option (((List Int) × (List ByteArray) × Int × (List Int) × Bool × Unit) ⊕ ((Unit × Bool × Unit) ⊕ ((List Int) × (List Int) × Bool × Unit))) :=
  (brT (decide (v2 < (↑v1.length : Int))) (brT (decide (0 ≤ v2) && decide (v2 < (↑v1.length : Int))) (brT (v2.toNat.blt v1.length && true) (brT (r_spec_l01Value M (v1.getD v2.toNat (ByteArray.mk #[]))) (brT (!(p_spec_l01Value M (v1.getD v2.toNat (ByteArray.mk #[]))).snd) (some (.inr (.inl ((), (false, ()))))) (brT (v0.length.beq v0.length && (v0.length + [(p_spec_l01Value M (v1.getD v2.toNat (ByteArray.mk #[]))).fst].length).ble 1073741824) (brT ((v0 ++ [(p_spec_l01Value M (v1.getD v2.toNat (ByteArray.mk #[]))).fst]).length.beq (v0 ++ [(p_spec_l01Value M (v1.getD v2.toNat (ByteArray.mk #[]))).fst]).length && (v1.length.beq v1.length && (v3.length.beq v3.length && true))) (some (.inl (v0 ++ [(p_spec_l01Value M (v1.getD v2.toNat (ByteArray.mk #[]))).fst], (v1, (IntKind.i64.wrap (v2 + 1), (v3, (v4, ()))))))) none) none)) none) none) none) (brT (v0.length.beq v0.length && (v3.length.beq v3.length && true)) (some (.inr (.inr (v0, (v3, (v4, ())))))) none))
def W_spec_l01Numbers_0 (M : FOps) : ((List Int) × (List ByteArray) × Int × (List Int) × Bool × Unit) → Option ((Unit × Bool × Unit) ⊕ ((List Int) × (List Int) × Bool × Unit)) := runW (fun x => st_spec_l01Numbers_0 M x.1 x.2.1 x.2.2.1 x.2.2.2.1 x.2.2.2.2.1)
def L_spec_l01Numbers_0 (M : FOps) : LSpec := mkL (.cons (.to 4 0 (.int .i64)) (.cons (.to 5 1 .str) (.cons (.tv 6 false (.int .i64)) (.cons (.to 2 2 (.int .i64)) (.cons (.tv 3 false .bool) .nil))))) [(.ret, (.cons (.tn 2) (.cons (.tv 3 false .bool) .nil))), ((.exit 0), (.cons (.to 4 0 (.int .i64)) (.cons (.to 2 2 (.int .i64)) (.cons (.tv 3 false .bool) .nil))))] 3 0 (W_spec_l01Numbers_0 M)
def c0_spec_l01Numbers (M : FOps) (a0 : ByteArray) : List ByteArray := p_spec_l01Cut M a0 44
def c1_spec_l01Numbers (M : FOps) (a0 : ByteArray) : Option (Unit × Bool × Unit ⊕ List Int × List Int × Bool × Unit) := W_spec_l01Numbers_0 M ([], (c0_spec_l01Numbers M a0), 0, [], false, ())
def F_spec_l01Numbers (r : (List Int) × Bool) : AS.Ty (.cons (.one (.ls (.int .i64))) (.cons (.one .bool) .nil)) × List CS := ((r.1, (r.2, ())), [])
def p_spec_l01Numbers (M : FOps) (a0 : ByteArray) : (List Int) × Bool :=
  (bif a0.toList == (ByteArray.mk #[110, 111, 110, 101]).toList then ([], true) else (bif decide ((↑(c0_spec_l01Numbers M a0).length : Int) > 64) then ([], false) else (bif isL ((c1_spec_l01Numbers M a0).getD (Sum.inl ((), false, ()))) then ([], (getL ((), false, ()) ((c1_spec_l01Numbers M a0).getD (Sum.inl ((), false, ())))).snd.fst) else ((getR ([], [], false, ()) ((c1_spec_l01Numbers M a0).getD (Sum.inl ((), false, ())))).fst, true))))
def r_spec_l01Numbers (M : FOps) (a0 : ByteArray) : Bool :=
  (bif a0.toList == (ByteArray.mk #[110, 111, 110, 101]).toList then true else ((r_spec_l01Cut M a0 44) && (bif decide ((↑(c0_spec_l01Numbers M a0).length : Int) > 64) then true else (((c0_spec_l01Numbers M a0).length.beq (c0_spec_l01Numbers M a0).length && true) && (((c1_spec_l01Numbers M a0).isSome) && (bif isL ((c1_spec_l01Numbers M a0).getD (Sum.inl ((), false, ()))) then true else (((List.length (getR ([], [], false, ()) ((c1_spec_l01Numbers M a0).getD (Sum.inl ((), false, ())))).fst).beq (List.length (getR ([], [], false, ()) ((c1_spec_l01Numbers M a0).getD (Sum.inl ((), false, ())))).fst) && true) && true)))))))
def S_spec_l01Numbers (M : FOps) : FSpec := mkSpec (.cons (.one .str) .nil) (.cons (.one (.ls (.int .i64))) (.cons (.one .bool) .nil)) (fun x => r_spec_l01Numbers M x.1) (fun x => F_spec_l01Numbers (p_spec_l01Numbers M x.1))

def F_spec_l06Give (r : Int × Int × (List Nat) × Bool) : AS.Ty (.cons (.agg (.pair (.int .i64) (.pair (.int .i64) (.ls (.fl .f32))))) (.cons (.one .bool) .nil)) × List CS := (((r.1, (r.2.1, r.2.2.1)), (r.2.2.2, ())), [])
def p_spec_l06Give (M : FOps) (a0_0 : Int) (a0_1 : Int) (a0_2 : (List Nat)) : Int × Int × (List Nat) × Bool :=
  (bif !p_spec_l06Is M a0_0 a0_1 a0_2 then (0, 0, [], false) else (a0_0, a0_1, a0_2, true))
def r_spec_l06Give (M : FOps) (a0_0 : Int) (a0_1 : Int) (a0_2 : (List Nat)) : Bool :=
  ((a0_2.length.beq a0_2.length && true && r_spec_l06Is M a0_0 a0_1 a0_2) && (bif !p_spec_l06Is M a0_0 a0_1 a0_2 then true else ((a0_2.length.beq a0_2.length && true) && true)))
def S_spec_l06Give (M : FOps) : FSpec := eatSpec (.cons (.ao (.pair (.int .i64) (.int .i64)) (.fl .f32)) .nil) (.cons (.agg (.pair (.int .i64) (.pair (.int .i64) (.ls (.fl .f32))))) (.cons (.one .bool) .nil)) (fun x => r_spec_l06Give M x.1.1.1 x.1.1.2 x.1.2) (fun x => F_spec_l06Give (p_spec_l06Give M x.1.1.1 x.1.1.2 x.1.2))

def c0_spec_l08ReadGrid (M : FOps) (a0 : ByteArray) : List ByteArray := p_spec_l01Cut M a0 59
def c1_spec_l08ReadGrid (M : FOps) (a0 : ByteArray) : List Int × Bool := p_spec_l01Numbers M ((c0_spec_l08ReadGrid M a0).getD 0 (ByteArray.mk #[]))
def c2_spec_l08ReadGrid (M : FOps) (a0 : ByteArray) : List Nat × Bool := p_spec_l01NRead M ((c0_spec_l08ReadGrid M a0).getD 1 (ByteArray.mk #[]))
def c3_spec_l08ReadGrid (M : FOps) (a0 : ByteArray) : Int × Int × List Nat × Bool := p_spec_l06Give M ((c1_spec_l08ReadGrid M a0).fst.getD 0 0) ((c1_spec_l08ReadGrid M a0).fst.getD 1 0) (c2_spec_l08ReadGrid M a0).fst
def F_spec_l08ReadGrid (r : Int × Int × (List Nat) × Bool) : AS.Ty (.cons (.agg (.pair (.int .i64) (.pair (.int .i64) (.ls (.fl .f32))))) (.cons (.one .bool) .nil)) × List CS := (((r.1, (r.2.1, r.2.2.1)), (r.2.2.2, ())), [])
def p_spec_l08ReadGrid (M : FOps) (a0 : ByteArray) : Int × Int × (List Nat) × Bool :=
  (bif (↑(c0_spec_l08ReadGrid M a0).length : Int) != 2 then (0, 0, [], false) else (bif !(c1_spec_l08ReadGrid M a0).snd then (0, 0, [], false) else (bif !(c2_spec_l08ReadGrid M a0).snd then (0, 0, [], false) else (bif (↑(c1_spec_l08ReadGrid M a0).fst.length : Int) != 2 then (0, 0, [], false) else ((c3_spec_l08ReadGrid M a0).fst, (c3_spec_l08ReadGrid M a0).snd.fst, (c3_spec_l08ReadGrid M a0).snd.snd.fst, (c3_spec_l08ReadGrid M a0).snd.snd.snd)))))
def r_spec_l08ReadGrid (M : FOps) (a0 : ByteArray) : Bool :=
  ((r_spec_l01Cut M a0 59) && (bif (↑(c0_spec_l08ReadGrid M a0).length : Int) != 2 then true else ((decide (0 < (↑(c0_spec_l08ReadGrid M a0).length : Int))) && ((Nat.blt 0 (c0_spec_l08ReadGrid M a0).length && true) && ((r_spec_l01Numbers M ((c0_spec_l08ReadGrid M a0).getD 0 (ByteArray.mk #[]))) && ((decide (1 < (↑(c0_spec_l08ReadGrid M a0).length : Int))) && ((Nat.blt 1 (c0_spec_l08ReadGrid M a0).length && true) && ((r_spec_l01NRead M ((c0_spec_l08ReadGrid M a0).getD 1 (ByteArray.mk #[]))) && (bif !(c1_spec_l08ReadGrid M a0).snd then true else (bif !(c2_spec_l08ReadGrid M a0).snd then true else (bif (↑(c1_spec_l08ReadGrid M a0).fst.length : Int) != 2 then true else ((decide (0 < (↑(c1_spec_l08ReadGrid M a0).fst.length : Int))) && ((Nat.blt 0 (c1_spec_l08ReadGrid M a0).fst.length && true) && ((decide (1 < (↑(c1_spec_l08ReadGrid M a0).fst.length : Int))) && ((Nat.blt 1 (c1_spec_l08ReadGrid M a0).fst.length && true) && (((c2_spec_l08ReadGrid M a0).fst.length.beq (c2_spec_l08ReadGrid M a0).fst.length && true && r_spec_l06Give M ((c1_spec_l08ReadGrid M a0).fst.getD 0 0) ((c1_spec_l08ReadGrid M a0).fst.getD 1 0) (c2_spec_l08ReadGrid M a0).fst) && (((c3_spec_l08ReadGrid M a0).snd.snd.fst.length.beq (c3_spec_l08ReadGrid M a0).snd.snd.fst.length && true) && true)))))))))))))))))
def S_spec_l08ReadGrid (M : FOps) : FSpec := mkSpec (.cons (.one .str) .nil) (.cons (.agg (.pair (.int .i64) (.pair (.int .i64) (.ls (.fl .f32))))) (.cons (.one .bool) .nil)) (fun x => r_spec_l08ReadGrid M x.1) (fun x => F_spec_l08ReadGrid (p_spec_l08ReadGrid M x.1))

def c0_spec_ReadGrid (M : FOps) (a0 : ByteArray) : Int × Int × List Nat × Bool := p_spec_l08ReadGrid M a0
def F_spec_ReadGrid (r : Int × Int × (List Nat) × Bool) : AS.Ty (.cons (.agg (.pair (.int .i64) (.pair (.int .i64) (.ls (.fl .f32))))) (.cons (.one .bool) .nil)) × List CS := (((r.1, (r.2.1, r.2.2.1)), (r.2.2.2, ())), [])
def p_spec_ReadGrid (M : FOps) (a0 : ByteArray) : Int × Int × (List Nat) × Bool :=
  ((c0_spec_ReadGrid M a0).fst, (c0_spec_ReadGrid M a0).snd.fst, (c0_spec_ReadGrid M a0).snd.snd.fst, (c0_spec_ReadGrid M a0).snd.snd.snd)
def r_spec_ReadGrid (M : FOps) (a0 : ByteArray) : Bool :=
  ((r_spec_l08ReadGrid M a0) && (((c0_spec_ReadGrid M a0).snd.snd.fst.length.beq (c0_spec_ReadGrid M a0).snd.snd.fst.length && true) && true))
def S_spec_ReadGrid (M : FOps) : FSpec := mkSpec (.cons (.one .str) .nil) (.cons (.agg (.pair (.int .i64) (.pair (.int .i64) (.ls (.fl .f32))))) (.cons (.one .bool) .nil)) (fun x => r_spec_ReadGrid M x.1) (fun x => F_spec_ReadGrid (p_spec_ReadGrid M x.1))

end
end Go.Dv
