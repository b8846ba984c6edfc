/- Printed by gen2.py. -/
import Derived.Test.YtgfplcpjnlignaaDoorWkh
import Derived.Test.YtgfplcpjnlignaaDoorWla
import Derived.Test.YtgfplcpjnlignaaDoorWlj

set_option linter.unusedVariables false
set_option linter.unusedSimpArgs false

-- GENERATED BELOW (gen.py)
namespace Go.Dv
open Go.Cv
noncomputable section
def c0_spec_B10Place (M : FOps) (a0 : (List Int)) : List Int × Int × Int := p_spec_l00From M a0
def c1_spec_B10Place (M : FOps) (a0 : (List Int)) : Int × List Int × Int × Int := p_spec_l00Src_pick M (c0_spec_B10Place M a0).fst (c0_spec_B10Place M a0).snd.fst (c0_spec_B10Place M a0).snd.snd 49
def F_spec_B10Place (r : Nat × Nat) : AS.Ty (.cons (.agg (.pair (.fl .f32) (.fl .f32))) .nil) × List CS := (((r.1, r.2), ()), [])
def p_spec_B10Place (M : FOps) (a0 : (List Int)) : Nat × Nat :=
  (M.bin BinOp.quo FloatKind.f32 (M.ofi FloatKind.f32 (IntKind.i64.wrap ((c1_spec_B10Place M a0).fst - 24))) 1124073472, M.bin BinOp.quo FloatKind.f32 (M.ofi FloatKind.f32 (IntKind.i64.wrap ((p_spec_l00Src_pick M (c1_spec_B10Place M a0).snd.fst (c1_spec_B10Place M a0).snd.snd.fst (c1_spec_B10Place M a0).snd.snd.snd 128).fst - 64))) 1124073472)
def r_spec_B10Place (M : FOps) (a0 : (List Int)) : Bool :=
  ((r_spec_l00Src_pick M (c0_spec_B10Place M a0).fst (c0_spec_B10Place M a0).snd.fst (c0_spec_B10Place M a0).snd.snd 49) && ((r_spec_l00Src_pick M (c1_spec_B10Place M a0).snd.fst (c1_spec_B10Place M a0).snd.snd.fst (c1_spec_B10Place M a0).snd.snd.snd 128) && true))
def S_spec_B10Place (M : FOps) : FSpec := mkSpec (.cons (.fz (.ls (.int .u8))) .nil) (.cons (.agg (.pair (.fl .f32) (.fl .f32))) .nil) (fun x => r_spec_B10Place M x.1) (fun x => F_spec_B10Place (p_spec_B10Place M x.1))

def F_impl_isZoom (r : Bool) : AS.Ty (.cons (.one .bool) .nil) × List CS := ((r, ()), [])
def p_impl_isZoom (M : FOps) (a0 : Int) : Bool :=
  p_impl_within M a0 0 20
def S_impl_isZoom (M : FOps) : FSpec := mkSpec (.cons (.one (.int .i64)) .nil) (.cons (.one .bool) .nil) (fun _ => true) (fun x => F_impl_isZoom (p_impl_isZoom M x.1))

/-- impl.tileKey, loop 0: (.tv 0 false (.int .i64)) (.tv 1 false (.int .i64)) (.tv 2 false (.int .i64)) (.to 7 0 (.int .u8)) (.tv 13 false (.int .i64)) (.tv 14 false (.int .i64)) (.tv 6 false .str) -/
def st_impl_tileKey_0 (M : FOps) (v0 : Int) (v1 : Int) (v2 : Int) (v3 : (List Int)) (v4 : Int) (v5 : Int) (v6 : ByteArray) : Option ((Int × Int × Int × (List Int) × Int × Int × ByteArray × Unit) ⊕ ((List Int) × ByteArray × Unit)) :=
  (brT (decide (v5 < v4)) (brT (decide (0 ≤ IntKind.i64.wrap (IntKind.i64.wrap (v0 - 1) - v5)) && decide (IntKind.i64.wrap (IntKind.i64.wrap (v0 - 1) - v5) ≤ Int.ofNat 64)) (brT (decide (0 ≤ IntKind.i64.wrap (IntKind.i64.wrap (v0 - 1) - v5)) && decide (IntKind.i64.wrap (IntKind.i64.wrap (v0 - 1) - v5) ≤ Int.ofNat 64)) (brT (decide (0 ≤ v5) && decide (v5 < (↑v3.length : Int))) (brT (v5.toNat.blt v3.length && true) (brT (v3.length.beq (v3.set v5.toNat (IntKind.u8.wrap (IntKind.i64.wrap (IntKind.i64.wrap (48 + IntKind.i64.wrap (2 * bits BinOp.and IntKind.i64 (v2 / 2 ^ (IntKind.i64.wrap (IntKind.i64.wrap (v0 - 1) - v5)).toNat) 1)) + bits BinOp.and IntKind.i64 (v1 / 2 ^ (IntKind.i64.wrap (IntKind.i64.wrap (v0 - 1) - v5)).toNat) 1)))).length && true) (some (.inl (v0, (v1, (v2, (v3.set v5.toNat (IntKind.u8.wrap (IntKind.i64.wrap (IntKind.i64.wrap (48 + IntKind.i64.wrap (2 * bits BinOp.and IntKind.i64 (v2 / 2 ^ (IntKind.i64.wrap (IntKind.i64.wrap (v0 - 1) - v5)).toNat) 1)) + bits BinOp.and IntKind.i64 (v1 / 2 ^ (IntKind.i64.wrap (IntKind.i64.wrap (v0 - 1) - v5)).toNat) 1))), (v4, (IntKind.i64.wrap (v5 + 1), (v6, ()))))))))) none) none) none) none) none) (brT (v3.length.beq v3.length && true) (some (.inr (v3, (v6, ())))) none))
def W_impl_tileKey_0 (M : FOps) : (Int × Int × Int × (List Int) × Int × Int × ByteArray × Unit) → Option ((List Int) × ByteArray × Unit) := runW (fun x => st_impl_tileKey_0 M x.1 x.2.1 x.2.2.1 x.2.2.2.1 x.2.2.2.2.1 x.2.2.2.2.2.1 x.2.2.2.2.2.2.1)
def L_impl_tileKey_0 (M : FOps) : LSpec := mkL (.cons (.tv 0 false (.int .i64)) (.cons (.tv 1 false (.int .i64)) (.cons (.tv 2 false (.int .i64)) (.cons (.to 7 0 (.int .u8)) (.cons (.tv 13 false (.int .i64)) (.cons (.tv 14 false (.int .i64)) (.cons (.tv 6 false .str) .nil))))))) [((.exit 0), (.cons (.to 7 0 (.int .u8)) (.cons (.tv 6 false .str) .nil)))] 1 0 (W_impl_tileKey_0 M)
def c0_impl_tileKey (M : FOps) (a0 : Int) (a1 : Int) (a2 : Int) : Option (List Int × ByteArray × Unit) := W_impl_tileKey_0 M (a0, a1, a2, List.replicate a0.toNat (0 : Int), (↑(List.replicate a0.toNat (0 : Int)).length : Int), 0, (ByteArray.mk #[]), ())
def F_impl_tileKey (r : ByteArray) : AS.Ty (.cons (.one .str) .nil) × List CS := ((r, ()), [])
def p_impl_tileKey (M : FOps) (a0 : Int) (a1 : Int) (a2 : Int) : ByteArray :=
  p_bytes ((c0_impl_tileKey M a0 a1 a2).getD ([], (ByteArray.mk #[]), ())).fst
def r_impl_tileKey (M : FOps) (a0 : Int) (a1 : Int) (a2 : Int) : Bool :=
  ((decide (0 ≤ a0) && decide (a0 ≤ a0) && decide (a0 ≤ Int.ofNat 1073741824)) && (((List.replicate a0.toNat (0 : Int)).length.beq (List.replicate a0.toNat (0 : Int)).length && true) && (((c0_impl_tileKey M a0 a1 a2).isSome) && true)))
def S_impl_tileKey (M : FOps) : FSpec := mkSpec (.cons (.one (.int .i64)) (.cons (.one (.int .i64)) (.cons (.one (.int .i64)) .nil))) (.cons (.one .str) .nil) (fun x => r_impl_tileKey M x.1 x.2.1 x.2.2.1) (fun x => F_impl_tileKey (p_impl_tileKey M x.1 x.2.1 x.2.2.1))

def c0_impl_tileOf (M : FOps) (a0_0 : Nat) (a0_1 : Nat) (a1 : Int) : Int × Int × Bool := p_impl_StepsOf M a0_0 a0_1
def F_impl_tileOf (r : Int × Int) : AS.Ty (.cons (.one (.int .i64)) (.cons (.one (.int .i64)) .nil)) × List CS := ((r.1, (r.2, ())), [])
def p_impl_tileOf (M : FOps) (a0_0 : Nat) (a0_1 : Nat) (a1 : Int) : Int × Int :=
  (IntKind.i64.wrap ((c0_impl_tileOf M a0_0 a0_1 a1).snd.fst + 8388608) / 2 ^ (IntKind.i64.wrap (24 - a1)).toNat, (bif decide (16777215 < IntKind.i64.wrap (IntKind.i64.wrap (2 * (c0_impl_tileOf M a0_0 a0_1 a1).fst) + 8388608)) then 16777215 else IntKind.i64.wrap (IntKind.i64.wrap (2 * (c0_impl_tileOf M a0_0 a0_1 a1).fst) + 8388608)) / 2 ^ (IntKind.i64.wrap (24 - a1)).toNat)
def r_impl_tileOf (M : FOps) (a0_0 : Nat) (a0_1 : Nat) (a1 : Int) : Bool :=
  ((r_impl_StepsOf M a0_0 a0_1) && ((decide (0 ≤ IntKind.i64.wrap (24 - a1)) && decide (IntKind.i64.wrap (24 - a1) ≤ Int.ofNat 64)) && ((decide (0 ≤ IntKind.i64.wrap (24 - a1)) && decide (IntKind.i64.wrap (24 - a1) ≤ Int.ofNat 64)) && true)))
def S_impl_tileOf (M : FOps) : FSpec := mkSpec (.cons (.agg (.pair (.fl .f32) (.fl .f32))) (.cons (.one (.int .i64)) .nil)) (.cons (.one (.int .i64)) (.cons (.one (.int .i64)) .nil)) (fun x => r_impl_tileOf M x.1.1 x.1.2 x.2.1) (fun x => F_impl_tileOf (p_impl_tileOf M x.1.1 x.1.2 x.2.1))

def c0_impl_KeyOf (M : FOps) (a0_0 : Nat) (a0_1 : Nat) (a1 : Int) : Int × Int := p_impl_tileOf M a0_0 a0_1 a1
def F_impl_KeyOf (r : ByteArray × Bool) : AS.Ty (.cons (.one .str) (.cons (.one .bool) .nil)) × List CS := ((r.1, (r.2, ())), [])
def p_impl_KeyOf (M : FOps) (a0_0 : Nat) (a0_1 : Nat) (a1 : Int) : ByteArray × Bool :=
  (bif !p_impl_ValidPlace M a0_0 a0_1 then ((ByteArray.mk #[]), false) else (bif !p_impl_isZoom M a1 then ((ByteArray.mk #[]), false) else (p_impl_tileKey M a1 (c0_impl_KeyOf M a0_0 a0_1 a1).fst (c0_impl_KeyOf M a0_0 a0_1 a1).snd, true)))
def r_impl_KeyOf (M : FOps) (a0_0 : Nat) (a0_1 : Nat) (a1 : Int) : Bool :=
  (bif !p_impl_ValidPlace M a0_0 a0_1 then true else (bif !p_impl_isZoom M a1 then true else ((r_impl_tileOf M a0_0 a0_1 a1) && ((r_impl_tileKey M a1 (c0_impl_KeyOf M a0_0 a0_1 a1).fst (c0_impl_KeyOf M a0_0 a0_1 a1).snd) && true))))
def S_impl_KeyOf (M : FOps) : FSpec := mkSpec (.cons (.agg (.pair (.fl .f32) (.fl .f32))) (.cons (.one (.int .i64)) .nil)) (.cons (.one .str) (.cons (.one .bool) .nil)) (fun x => r_impl_KeyOf M x.1.1 x.1.2 x.2.1) (fun x => F_impl_KeyOf (p_impl_KeyOf M x.1.1 x.1.2 x.2.1))

def F_impl_IsKey (r : Bool) : AS.Ty (.cons (.one .bool) .nil) × List CS := ((r, ()), [])
def p_impl_IsKey (M : FOps) (a0 : ByteArray) : Bool :=
  (bif decide ((↑a0.size : Int) ≤ 20) then (p_strings_Trim M a0 (ByteArray.mk #[48, 49, 50, 51])).toList == (ByteArray.mk #[]).toList else false)
def r_impl_IsKey (M : FOps) (a0 : ByteArray) : Bool :=
  (bif decide ((↑a0.size : Int) ≤ 20) then ((r_strings_Trim M a0 (ByteArray.mk #[48, 49, 50, 51])) && true) else true)
def S_impl_IsKey (M : FOps) : FSpec := mkSpec (.cons (.one .str) .nil) (.cons (.one .bool) .nil) (fun x => r_impl_IsKey M x.1) (fun x => F_impl_IsKey (p_impl_IsKey M x.1))

/-- impl.keyTile, loop 0: (.tv 0 false .str) (.tv 4 false (.int .i64)) (.tv 5 false (.int .i64)) (.tv 9 false (.int .i64)) (.tv 10 false (.int .i64)) (.tv 2 false (.int .i64)) (.tv 3 false (.int .i64)) -/
def st_impl_keyTile_0 (M : FOps) (v0 : ByteArray) (v1 : Int) (v2 : Int) (v3 : Int) (v4 : Int) (v5 : Int) (v6 : Int) : Option ((ByteArray × Int × Int × Int × Int × Int × Int × Unit) ⊕ (Int × Int × Int × Int × Unit)) :=
  (brT (decide (v4 < v3)) (brT (decide (0 ≤ v4) && decide (v4 < (↑v0.size : Int))) (some (.inl (v0, (IntKind.i64.wrap (IntKind.i64.wrap (2 * v1) + bits BinOp.and IntKind.i64 (IntKind.i64.wrap (IntKind.u8.wrap (p_byteAt v0 v4 - 48))) 1), (IntKind.i64.wrap (IntKind.i64.wrap (2 * v2) + IntKind.i64.wrap (IntKind.u8.wrap (p_byteAt v0 v4 - 48)) / Int.ofNat 2), (v3, (IntKind.i64.wrap (v4 + 1), (v5, (v6, ()))))))))) none) (some (.inr (v1, (v2, (v5, (v6, ())))))))
def W_impl_keyTile_0 (M : FOps) : (ByteArray × Int × Int × Int × Int × Int × Int × Unit) → Option (Int × Int × Int × Int × Unit) := runW (fun x => st_impl_keyTile_0 M x.1 x.2.1 x.2.2.1 x.2.2.2.1 x.2.2.2.2.1 x.2.2.2.2.2.1 x.2.2.2.2.2.2.1)
def L_impl_keyTile_0 (M : FOps) : LSpec := mkL (.cons (.tv 0 false .str) (.cons (.tv 4 false (.int .i64)) (.cons (.tv 5 false (.int .i64)) (.cons (.tv 9 false (.int .i64)) (.cons (.tv 10 false (.int .i64)) (.cons (.tv 2 false (.int .i64)) (.cons (.tv 3 false (.int .i64)) .nil))))))) [((.exit 0), (.cons (.tv 4 false (.int .i64)) (.cons (.tv 5 false (.int .i64)) (.cons (.tv 2 false (.int .i64)) (.cons (.tv 3 false (.int .i64)) .nil)))))] 0 0 (W_impl_keyTile_0 M)
def c0_impl_keyTile (M : FOps) (a0 : ByteArray) : Option (Int × Int × Int × Int × Unit) := W_impl_keyTile_0 M (a0, 0, 0, (↑a0.size : Int), 0, 0, 0, ())
def F_impl_keyTile (r : Int × Int) : AS.Ty (.cons (.one (.int .i64)) (.cons (.one (.int .i64)) .nil)) × List CS := ((r.1, (r.2, ())), [])
def p_impl_keyTile (M : FOps) (a0 : ByteArray) : Int × Int :=
  (((c0_impl_keyTile M a0).getD (0, 0, 0, 0, ())).fst, ((c0_impl_keyTile M a0).getD (0, 0, 0, 0, ())).snd.fst)
def r_impl_keyTile (M : FOps) (a0 : ByteArray) : Bool :=
  (((c0_impl_keyTile M a0).isSome) && true)
def S_impl_keyTile (M : FOps) : FSpec := mkSpec (.cons (.one .str) .nil) (.cons (.one (.int .i64)) (.cons (.one (.int .i64)) .nil)) (fun x => r_impl_keyTile M x.1) (fun x => F_impl_keyTile (p_impl_keyTile M x.1))

def c0_impl_KeyTile (M : FOps) (a0 : ByteArray) : Int × Int := p_impl_keyTile M a0
def F_impl_KeyTile (r : Int × Int × Bool) : AS.Ty (.cons (.one (.int .i64)) (.cons (.one (.int .i64)) (.cons (.one .bool) .nil))) × List CS := ((r.1, (r.2.1, (r.2.2, ()))), [])
def p_impl_KeyTile (M : FOps) (a0 : ByteArray) : Int × Int × Bool :=
  (bif !p_impl_IsKey M a0 then (0, 0, false) else ((c0_impl_KeyTile M a0).fst, (c0_impl_KeyTile M a0).snd, true))
def r_impl_KeyTile (M : FOps) (a0 : ByteArray) : Bool :=
  ((r_impl_IsKey M a0) && (bif !p_impl_IsKey M a0 then true else ((r_impl_keyTile M a0) && true)))
def S_impl_KeyTile (M : FOps) : FSpec := mkSpec (.cons (.one .str) .nil) (.cons (.one (.int .i64)) (.cons (.one (.int .i64)) (.cons (.one .bool) .nil))) (fun x => r_impl_KeyTile M x.1) (fun x => F_impl_KeyTile (p_impl_KeyTile M x.1))

def F_impl_TileKey (r : ByteArray × Bool) : AS.Ty (.cons (.one .str) (.cons (.one .bool) .nil)) × List CS := ((r.1, (r.2, ())), [])
def p_impl_TileKey (M : FOps) (a0 : Int) (a1 : Int) (a2 : Int) : ByteArray × Bool :=
  (bif !p_impl_isZoom M a0 then ((ByteArray.mk #[]), false) else (bif !p_impl_within M a1 0 (IntKind.i64.wrap (IntKind.i64.wrap (1 * 2 ^ a0.toNat) - 1)) then ((ByteArray.mk #[]), false) else (bif !p_impl_within M a2 0 (IntKind.i64.wrap (IntKind.i64.wrap (1 * 2 ^ a0.toNat) - 1)) then ((ByteArray.mk #[]), false) else (p_impl_tileKey M a0 a1 a2, true))))
def r_impl_TileKey (M : FOps) (a0 : Int) (a1 : Int) (a2 : Int) : Bool :=
  (bif !p_impl_isZoom M a0 then true else ((decide (0 ≤ a0) && decide (a0 ≤ Int.ofNat 64)) && (bif !p_impl_within M a1 0 (IntKind.i64.wrap (IntKind.i64.wrap (1 * 2 ^ a0.toNat) - 1)) then true else ((decide (0 ≤ a0) && decide (a0 ≤ Int.ofNat 64)) && (bif !p_impl_within M a2 0 (IntKind.i64.wrap (IntKind.i64.wrap (1 * 2 ^ a0.toNat) - 1)) then true else ((r_impl_tileKey M a0 a1 a2) && true))))))
def S_impl_TileKey (M : FOps) : FSpec := mkSpec (.cons (.one (.int .i64)) (.cons (.one (.int .i64)) (.cons (.one (.int .i64)) .nil))) (.cons (.one .str) (.cons (.one .bool) .nil)) (fun x => r_impl_TileKey M x.1 x.2.1 x.2.2.1) (fun x => F_impl_TileKey (p_impl_TileKey M x.1 x.2.1 x.2.2.1))

def c0_impl_KeyBox_1 (M : FOps) (a0 : Int) (a1 : Int) : Nat × Nat × Bool := p_impl_PlaceOfSteps M (IntKind.i64.wrap (IntKind.i64.wrap (a1.tdiv 2) - 4194304)) (IntKind.i64.wrap (a0 - 8388608))
def F_impl_KeyBox_1 (r : Nat × Nat × Bool) : AS.Ty (.cons (.agg (.pair (.fl .f32) (.fl .f32))) (.cons (.one .bool) .nil)) × List CS := (((r.1, r.2.1), (r.2.2, ())), [])
def p_impl_KeyBox_1 (M : FOps) (a0 : Int) (a1 : Int) : Nat × Nat × Bool :=
  ((c0_impl_KeyBox_1 M a0 a1).fst, (c0_impl_KeyBox_1 M a0 a1).snd.fst, (c0_impl_KeyBox_1 M a0 a1).snd.snd)
def S_impl_KeyBox_1 (M : FOps) : FSpec := mkSpec (.cons (.one (.int .i64)) (.cons (.one (.int .i64)) .nil)) (.cons (.agg (.pair (.fl .f32) (.fl .f32))) (.cons (.one .bool) .nil)) (fun _ => true) (fun x => F_impl_KeyBox_1 (p_impl_KeyBox_1 M x.1 x.2.1))

def c0_impl_KeyBox (M : FOps) (a0 : ByteArray) : Int × Int := p_impl_keyTile M a0
def c1_impl_KeyBox (M : FOps) (a0 : ByteArray) : Nat × Nat × Bool := p_impl_KeyBox_1 M (IntKind.i64.wrap ((c0_impl_KeyBox M a0).fst * IntKind.i64.wrap (1 * 2 ^ (IntKind.i64.wrap (24 - (↑a0.size : Int))).toNat))) (IntKind.i64.wrap ((c0_impl_KeyBox M a0).snd * IntKind.i64.wrap (1 * 2 ^ (IntKind.i64.wrap (24 - (↑a0.size : Int))).toNat)))
def c2_impl_KeyBox (M : FOps) (a0 : ByteArray) : Nat × Nat × Bool := p_impl_KeyBox_1 M (IntKind.i64.wrap (IntKind.i64.wrap (IntKind.i64.wrap ((c0_impl_KeyBox M a0).fst * IntKind.i64.wrap (1 * 2 ^ (IntKind.i64.wrap (24 - (↑a0.size : Int))).toNat)) + IntKind.i64.wrap (1 * 2 ^ (IntKind.i64.wrap (24 - (↑a0.size : Int))).toNat)) - 1)) (IntKind.i64.wrap (IntKind.i64.wrap (IntKind.i64.wrap ((c0_impl_KeyBox M a0).snd * IntKind.i64.wrap (1 * 2 ^ (IntKind.i64.wrap (24 - (↑a0.size : Int))).toNat)) + IntKind.i64.wrap (1 * 2 ^ (IntKind.i64.wrap (24 - (↑a0.size : Int))).toNat)) - 1))
def F_impl_KeyBox (r : Nat × Nat × Nat × Nat × Bool) : AS.Ty (.cons (.agg (.pair (.fl .f32) (.fl .f32))) (.cons (.agg (.pair (.fl .f32) (.fl .f32))) (.cons (.one .bool) .nil))) × List CS := (((r.1, r.2.1), ((r.2.2.1, r.2.2.2.1), (r.2.2.2.2, ()))), [])
def p_impl_KeyBox (M : FOps) (a0 : ByteArray) : Nat × Nat × Nat × Nat × Bool :=
  (bif !p_impl_IsKey M a0 then (0, 0, 0, 0, false) else (bif !(c1_impl_KeyBox M a0).snd.snd then (0, 0, 0, 0, false) else (bif !(c2_impl_KeyBox M a0).snd.snd then (0, 0, 0, 0, false) else ((c1_impl_KeyBox M a0).fst, (c1_impl_KeyBox M a0).snd.fst, (c2_impl_KeyBox M a0).fst, (c2_impl_KeyBox M a0).snd.fst, true))))
def r_impl_KeyBox (M : FOps) (a0 : ByteArray) : Bool :=
  ((r_impl_IsKey M a0) && (bif !p_impl_IsKey M a0 then true else ((r_impl_keyTile M a0) && ((decide (0 ≤ IntKind.i64.wrap (24 - (↑a0.size : Int))) && decide (IntKind.i64.wrap (24 - (↑a0.size : Int)) ≤ Int.ofNat 64)) && true))))
def S_impl_KeyBox (M : FOps) : FSpec := mkSpec (.cons (.one .str) .nil) (.cons (.agg (.pair (.fl .f32) (.fl .f32))) (.cons (.agg (.pair (.fl .f32) (.fl .f32))) (.cons (.one .bool) .nil))) (fun x => r_impl_KeyBox M x.1) (fun x => F_impl_KeyBox (p_impl_KeyBox M x.1))

def c0_impl_KeyBeside (M : FOps) (a0 : ByteArray) (a1 : Int) (a2 : Int) : Int × Int := p_impl_keyTile M a0
def c1_impl_KeyBeside (M : FOps) (a0 : ByteArray) (a1 : Int) (a2 : Int) : ByteArray × Bool := p_impl_TileKey M (↑a0.size : Int) ((IntKind.i64.wrap ((IntKind.i64.wrap ((c0_impl_KeyBeside M a0 a1 a2).fst + a1)).tmod (IntKind.i64.wrap (1 * 2 ^ (↑a0.size : Int).toNat)) + IntKind.i64.wrap (1 * 2 ^ (↑a0.size : Int).toNat))).tmod (IntKind.i64.wrap (1 * 2 ^ (↑a0.size : Int).toNat))) (IntKind.i64.wrap ((c0_impl_KeyBeside M a0 a1 a2).snd + a2))
def F_impl_KeyBeside (r : ByteArray × Bool) : AS.Ty (.cons (.one .str) (.cons (.one .bool) .nil)) × List CS := ((r.1, (r.2, ())), [])
def p_impl_KeyBeside (M : FOps) (a0 : ByteArray) (a1 : Int) (a2 : Int) : ByteArray × Bool :=
  (bif !p_impl_IsKey M a0 then ((ByteArray.mk #[]), false) else (bif !p_impl_within M a1 (Int.negSucc 999999) 1000000 then ((ByteArray.mk #[]), false) else (bif !p_impl_within M a2 (Int.negSucc 999999) 1000000 then ((ByteArray.mk #[]), false) else ((c1_impl_KeyBeside M a0 a1 a2).fst, (c1_impl_KeyBeside M a0 a1 a2).snd))))
def r_impl_KeyBeside (M : FOps) (a0 : ByteArray) (a1 : Int) (a2 : Int) : Bool :=
  ((r_impl_IsKey M a0) && (bif !p_impl_IsKey M a0 then true else (bif !p_impl_within M a1 (Int.negSucc 999999) 1000000 then true else (bif !p_impl_within M a2 (Int.negSucc 999999) 1000000 then true else ((r_impl_keyTile M a0) && ((decide ((↑a0.size : Int) ≤ Int.ofNat 64)) && (!(IntKind.i64.wrap (1 * 2 ^ (↑a0.size : Int).toNat) == 0) && (!(IntKind.i64.wrap (1 * 2 ^ (↑a0.size : Int).toNat) == 0) && ((r_impl_TileKey M (↑a0.size : Int) ((IntKind.i64.wrap ((IntKind.i64.wrap ((c0_impl_KeyBeside M a0 a1 a2).fst + a1)).tmod (IntKind.i64.wrap (1 * 2 ^ (↑a0.size : Int).toNat)) + IntKind.i64.wrap (1 * 2 ^ (↑a0.size : Int).toNat))).tmod (IntKind.i64.wrap (1 * 2 ^ (↑a0.size : Int).toNat))) (IntKind.i64.wrap ((c0_impl_KeyBeside M a0 a1 a2).snd + a2))) && true)))))))))
def S_impl_KeyBeside (M : FOps) : FSpec := mkSpec (.cons (.one .str) (.cons (.one (.int .i64)) (.cons (.one (.int .i64)) .nil))) (.cons (.one .str) (.cons (.one .bool) .nil)) (fun x => r_impl_KeyBeside M x.1 x.2.1 x.2.2.1) (fun x => F_impl_KeyBeside (p_impl_KeyBeside M x.1 x.2.1 x.2.2.1))

def F_impl_KeyParent (r : ByteArray × Bool) : AS.Ty (.cons (.one .str) (.cons (.one .bool) .nil)) × List CS := ((r.1, (r.2, ())), [])
def p_impl_KeyParent (M : FOps) (a0 : ByteArray) : ByteArray × Bool :=
  (bif !p_impl_IsKey M a0 then ((ByteArray.mk #[]), false) else (bif a0.toList == (ByteArray.mk #[]).toList then ((ByteArray.mk #[]), false) else (p_sub a0 0 ((some (IntKind.i64.wrap ((↑a0.size : Int) - 1))).getD (↑a0.size : Int)).toNat, true)))
def r_impl_KeyParent (M : FOps) (a0 : ByteArray) : Bool :=
  ((r_impl_IsKey M a0) && (bif !p_impl_IsKey M a0 then true else (bif a0.toList == (ByteArray.mk #[]).toList then true else ((decide (Int.ofNat 0 ≤ (some (IntKind.i64.wrap ((↑a0.size : Int) - 1))).getD (↑a0.size : Int)) && decide ((some (IntKind.i64.wrap ((↑a0.size : Int) - 1))).getD (↑a0.size : Int) ≤ (↑a0.size : Int))) && true))))
def S_impl_KeyParent (M : FOps) : FSpec := mkSpec (.cons (.one .str) .nil) (.cons (.one .str) (.cons (.one .bool) .nil)) (fun x => r_impl_KeyParent M x.1) (fun x => F_impl_KeyParent (p_impl_KeyParent M x.1))

/-- spec.l07Is, loop 0: (.tv 0 false .str) (.tv 3 false (.int .i64)) (.tv 2 false .bool) -/
def st_spec_l07Is_0 (M : FOps) (v0 : ByteArray) (v1 : Int) (v2 : Bool) : Option ((ByteArray × Int × Bool × Unit) ⊕ ((Bool × Unit) ⊕ (ByteArray × Bool × Unit))) :=
  (brT (decide (v1 < (↑v0.size : Int))) (brT (decide (0 ≤ v1) && decide (v1 < (↑v0.size : Int))) (brT (decide (p_byteAt v0 v1 < 48)) (some (.inr (.inl (false, ())))) (brT (decide (0 ≤ v1) && decide (v1 < (↑v0.size : Int))) (brT (decide (p_byteAt v0 v1 > 51)) (some (.inr (.inl (false, ())))) (some (.inl (v0, (IntKind.i64.wrap (v1 + 1), (v2, ())))))) none)) none) (some (.inr (.inr (v0, (v2, ()))))))
def W_spec_l07Is_0 (M : FOps) : (ByteArray × Int × Bool × Unit) → Option ((Bool × Unit) ⊕ (ByteArray × Bool × Unit)) := runW (fun x => st_spec_l07Is_0 M x.1 x.2.1 x.2.2.1)
def L_spec_l07Is_0 (M : FOps) : LSpec := mkL (.cons (.tv 0 false .str) (.cons (.tv 3 false (.int .i64)) (.cons (.tv 2 false .bool) .nil))) [(.ret, (.cons (.tv 2 false .bool) .nil)), ((.exit 0), (.cons (.tv 0 false .str) (.cons (.tv 2 false .bool) .nil)))] 0 0 (W_spec_l07Is_0 M)
def c0_spec_l07Is (M : FOps) (a0 : ByteArray) : Option (Bool × Unit ⊕ ByteArray × Bool × Unit) := W_spec_l07Is_0 M (a0, 0, false, ())
def F_spec_l07Is (r : Bool) : AS.Ty (.cons (.one .bool) .nil) × List CS := ((r, ()), [])
def p_spec_l07Is (M : FOps) (a0 : ByteArray) : Bool :=
  (bif isL ((c0_spec_l07Is M a0).getD (Sum.inl (false, ()))) then (getL (false, ()) ((c0_spec_l07Is M a0).getD (Sum.inl (false, ())))).fst else decide ((↑(ByteArray.size (getR ((ByteArray.mk #[]), false, ()) ((c0_spec_l07Is M a0).getD (Sum.inl (false, ())))).fst) : Int) ≤ 20))
def r_spec_l07Is (M : FOps) (a0 : ByteArray) : Bool :=
  (((c0_spec_l07Is M a0).isSome) && true)
def S_spec_l07Is (M : FOps) : FSpec := mkSpec (.cons (.one .str) .nil) (.cons (.one .bool) .nil) (fun x => r_spec_l07Is M x.1) (fun x => F_spec_l07Is (p_spec_l07Is M x.1))

/-- spec.l07Read, loop 0: (.tv 0 false .str) (.tv 4 false (.int .i64)) (.tv 5 false (.int .i64)) (.tv 6 false (.int .i64)) (.tv 2 false (.int .i64)) (.tv 3 false (.int .i64)) -/
def st_spec_l07Read_0 (M : FOps) (v0 : ByteArray) (v1 : Int) (v2 : Int) (v3 : Int) (v4 : Int) (v5 : Int) : Option ((ByteArray × Int × Int × Int × Int × Int × Unit) ⊕ (Int × Int × Int × Int × Unit)) :=
  (brT (decide (v3 < (↑v0.size : Int))) (brT (decide (0 ≤ v3) && decide (v3 < (↑v0.size : Int))) (some (.inl (v0, (IntKind.i64.wrap (IntKind.i64.wrap (2 * v1) + (IntKind.i64.wrap (IntKind.u8.wrap (p_byteAt v0 v3 - 48))).tmod 2), (IntKind.i64.wrap (IntKind.i64.wrap (2 * v2) + IntKind.i64.wrap ((IntKind.i64.wrap (IntKind.u8.wrap (p_byteAt v0 v3 - 48))).tdiv 2)), (IntKind.i64.wrap (v3 + 1), (v4, (v5, ())))))))) none) (some (.inr (v1, (v2, (v4, (v5, ())))))))
def W_spec_l07Read_0 (M : FOps) : (ByteArray × Int × Int × Int × Int × Int × Unit) → Option (Int × Int × Int × Int × Unit) := runW (fun x => st_spec_l07Read_0 M x.1 x.2.1 x.2.2.1 x.2.2.2.1 x.2.2.2.2.1 x.2.2.2.2.2.1)
def L_spec_l07Read_0 (M : FOps) : LSpec := mkL (.cons (.tv 0 false .str) (.cons (.tv 4 false (.int .i64)) (.cons (.tv 5 false (.int .i64)) (.cons (.tv 6 false (.int .i64)) (.cons (.tv 2 false (.int .i64)) (.cons (.tv 3 false (.int .i64)) .nil)))))) [((.exit 0), (.cons (.tv 4 false (.int .i64)) (.cons (.tv 5 false (.int .i64)) (.cons (.tv 2 false (.int .i64)) (.cons (.tv 3 false (.int .i64)) .nil)))))] 0 0 (W_spec_l07Read_0 M)
def c0_spec_l07Read (M : FOps) (a0 : ByteArray) : Option (Int × Int × Int × Int × Unit) := W_spec_l07Read_0 M (a0, 0, 0, 0, 0, 0, ())
def F_spec_l07Read (r : Int × Int) : AS.Ty (.cons (.one (.int .i64)) (.cons (.one (.int .i64)) .nil)) × List CS := ((r.1, (r.2, ())), [])
def p_spec_l07Read (M : FOps) (a0 : ByteArray) : Int × Int :=
  (((c0_spec_l07Read M a0).getD (0, 0, 0, 0, ())).fst, ((c0_spec_l07Read M a0).getD (0, 0, 0, 0, ())).snd.fst)
def r_spec_l07Read (M : FOps) (a0 : ByteArray) : Bool :=
  (((c0_spec_l07Read M a0).isSome) && true)
def S_spec_l07Read (M : FOps) : FSpec := mkSpec (.cons (.one .str) .nil) (.cons (.one (.int .i64)) (.cons (.one (.int .i64)) .nil)) (fun x => r_spec_l07Read M x.1) (fun x => F_spec_l07Read (p_spec_l07Read M x.1))

/-- spec.l07Key, loop 0: (.tv 1 false (.int .i64)) (.tv 2 false (.int .i64)) (.to 7 0 (.int .u8)) (.tv 8 false (.int .i64)) (.tv 6 false .str) -/
def st_spec_l07Key_0 (M : FOps) (v0 : Int) (v1 : Int) (v2 : (List Int)) (v3 : Int) (v4 : ByteArray) : Option ((Int × Int × (List Int) × Int × ByteArray × Unit) ⊕ ((List Int) × ByteArray × Unit)) :=
  (brT (decide (v3 ≥ 0)) (brT (decide (0 ≤ v3) && decide (v3 < (↑v2.length : Int))) (brT (v3.toNat.blt v2.length && true) (brT (v2.length.beq (v2.set v3.toNat (IntKind.u8.wrap (IntKind.i64.wrap (IntKind.i64.wrap (48 + IntKind.i64.wrap (2 * v1.tmod 2)) + v0.tmod 2)))).length && true) (some (.inl (IntKind.i64.wrap (v0.tdiv 2), (IntKind.i64.wrap (v1.tdiv 2), (v2.set v3.toNat (IntKind.u8.wrap (IntKind.i64.wrap (IntKind.i64.wrap (48 + IntKind.i64.wrap (2 * v1.tmod 2)) + v0.tmod 2))), (IntKind.i64.wrap (v3 - 1), (v4, ()))))))) none) none) none) (brT (v2.length.beq v2.length && true) (some (.inr (v2, (v4, ())))) none))
def W_spec_l07Key_0 (M : FOps) : (Int × Int × (List Int) × Int × ByteArray × Unit) → Option ((List Int) × ByteArray × Unit) := runW (fun x => st_spec_l07Key_0 M x.1 x.2.1 x.2.2.1 x.2.2.2.1 x.2.2.2.2.1)
def L_spec_l07Key_0 (M : FOps) : LSpec := mkL (.cons (.tv 1 false (.int .i64)) (.cons (.tv 2 false (.int .i64)) (.cons (.to 7 0 (.int .u8)) (.cons (.tv 8 false (.int .i64)) (.cons (.tv 6 false .str) .nil))))) [((.exit 0), (.cons (.to 7 0 (.int .u8)) (.cons (.tv 6 false .str) .nil)))] 1 0 (W_spec_l07Key_0 M)
def c0_spec_l07Key (M : FOps) (a0 : Int) (a1 : Int) (a2 : Int) : Option (List Int × ByteArray × Unit) := W_spec_l07Key_0 M (a1, a2, List.replicate a0.toNat (0 : Int), IntKind.i64.wrap (a0 - 1), (ByteArray.mk #[]), ())
def F_spec_l07Key (r : ByteArray) : AS.Ty (.cons (.one .str) .nil) × List CS := ((r, ()), [])
def p_spec_l07Key (M : FOps) (a0 : Int) (a1 : Int) (a2 : Int) : ByteArray :=
  p_bytes ((c0_spec_l07Key M a0 a1 a2).getD ([], (ByteArray.mk #[]), ())).fst
def r_spec_l07Key (M : FOps) (a0 : Int) (a1 : Int) (a2 : Int) : Bool :=
  ((decide (0 ≤ a0) && decide (a0 ≤ a0) && decide (a0 ≤ Int.ofNat 1073741824)) && (((List.replicate a0.toNat (0 : Int)).length.beq (List.replicate a0.toNat (0 : Int)).length && true) && (((c0_spec_l07Key M a0 a1 a2).isSome) && true)))
def S_spec_l07Key (M : FOps) : FSpec := mkSpec (.cons (.one (.int .i64)) (.cons (.one (.int .i64)) (.cons (.one (.int .i64)) .nil))) (.cons (.one .str) .nil) (fun x => r_spec_l07Key M x.1 x.2.1 x.2.2.1) (fun x => F_spec_l07Key (p_spec_l07Key M x.1 x.2.1 x.2.2.1))

def c0_spec_KeyBeside (M : FOps) (a0 : ByteArray) (a1 : Int) (a2 : Int) : Int × Int := p_spec_l07Read M a0
def F_spec_KeyBeside (r : ByteArray × Bool) : AS.Ty (.cons (.one .str) (.cons (.one .bool) .nil)) × List CS := ((r.1, (r.2, ())), [])
def p_spec_KeyBeside (M : FOps) (a0 : ByteArray) (a1 : Int) (a2 : Int) : ByteArray × Bool :=
  (bif !p_spec_l07Is M a0 then ((ByteArray.mk #[]), false) else (bif !p_spec_l00In M a1 (Int.negSucc 999999) 1000000 then ((ByteArray.mk #[]), false) else (bif !p_spec_l00In M a2 (Int.negSucc 999999) 1000000 then ((ByteArray.mk #[]), false) else (bif !p_spec_l00In M (IntKind.i64.wrap ((c0_spec_KeyBeside M a0 a1 a2).snd + a2)) 0 (IntKind.i64.wrap (IntKind.i64.wrap (1 * 2 ^ (↑a0.size : Int).toNat) - 1)) then ((ByteArray.mk #[]), false) else (p_spec_l07Key M (↑a0.size : Int) ((IntKind.i64.wrap ((IntKind.i64.wrap ((c0_spec_KeyBeside M a0 a1 a2).fst + a1)).tmod (IntKind.i64.wrap (1 * 2 ^ (↑a0.size : Int).toNat)) + IntKind.i64.wrap (1 * 2 ^ (↑a0.size : Int).toNat))).tmod (IntKind.i64.wrap (1 * 2 ^ (↑a0.size : Int).toNat))) (IntKind.i64.wrap ((c0_spec_KeyBeside M a0 a1 a2).snd + a2)), true)))))
def r_spec_KeyBeside (M : FOps) (a0 : ByteArray) (a1 : Int) (a2 : Int) : Bool :=
  ((r_spec_l07Is M a0) && (bif !p_spec_l07Is M a0 then true else (bif !p_spec_l00In M a1 (Int.negSucc 999999) 1000000 then true else (bif !p_spec_l00In M a2 (Int.negSucc 999999) 1000000 then true else ((decide ((↑a0.size : Int) ≤ Int.ofNat 64)) && ((r_spec_l07Read M a0) && (!(IntKind.i64.wrap (1 * 2 ^ (↑a0.size : Int).toNat) == 0) && (!(IntKind.i64.wrap (1 * 2 ^ (↑a0.size : Int).toNat) == 0) && (bif !p_spec_l00In M (IntKind.i64.wrap ((c0_spec_KeyBeside M a0 a1 a2).snd + a2)) 0 (IntKind.i64.wrap (IntKind.i64.wrap (1 * 2 ^ (↑a0.size : Int).toNat) - 1)) then true else ((r_spec_l07Key M (↑a0.size : Int) ((IntKind.i64.wrap ((IntKind.i64.wrap ((c0_spec_KeyBeside M a0 a1 a2).fst + a1)).tmod (IntKind.i64.wrap (1 * 2 ^ (↑a0.size : Int).toNat)) + IntKind.i64.wrap (1 * 2 ^ (↑a0.size : Int).toNat))).tmod (IntKind.i64.wrap (1 * 2 ^ (↑a0.size : Int).toNat))) (IntKind.i64.wrap ((c0_spec_KeyBeside M a0 a1 a2).snd + a2))) && true))))))))))
def S_spec_KeyBeside (M : FOps) : FSpec := mkSpec (.cons (.one .str) (.cons (.one (.int .i64)) (.cons (.one (.int .i64)) .nil))) (.cons (.one .str) (.cons (.one .bool) .nil)) (fun x => r_spec_KeyBeside M x.1 x.2.1 x.2.2.1) (fun x => F_spec_KeyBeside (p_spec_KeyBeside M x.1 x.2.1 x.2.2.1))

end
end Go.Dv
