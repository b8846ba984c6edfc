/- Printed by gen2.py. -/
import Derived.Test.YtgfplcpjnlignaaDoorEa

set_option linter.unusedVariables false
set_option linter.unusedSimpArgs false

-- GENERATED BELOW (gen.py)
namespace Go.Dv
open Go.Cv
noncomputable section
def F_spec_l00From (r : (List Int) × Int × Int) : AS.Ty (.cons (.pe (.pair (.ls (.int .u8)) (.pair (.int .i64) (.int .u64)))) .nil) × List CS := (((r.1, (r.2.1, r.2.2)), ()), [])
def p_spec_l00From (M : FOps) (a0 : (List Int)) : (List Int) × Int × Int :=
  (a0, 0, 0)
def S_spec_l00From (M : FOps) : FSpec := mkSpec (.cons (.fz (.ls (.int .u8))) .nil) (.cons (.pe (.pair (.ls (.int .u8)) (.pair (.int .i64) (.int .u64)))) .nil) (fun _ => true) (fun x => F_spec_l00From (p_spec_l00From M x.1))

def F_spec_l00Src_next (r : Int × (List Int) × Int × Int) : AS.Ty (.cons (.one (.int .i64)) .nil) × List CS := ((r.1, ()), [.arr (.pair (.ls (.int .u8)) (.pair (.int .i64) (.int .u64))) [(r.2.1, (r.2.2.1, r.2.2.2))]])
def p_spec_l00Src_next (M : FOps) (a0_0 : (List Int)) (a0_1 : Int) (a0_2 : Int) : Int × (List Int) × Int × Int :=
  (bif decide (a0_1 < (↑a0_0.length : Int)) then (bif decide (IntKind.i64.wrap (a0_1 + 1) ≤ (↑a0_0.length : Int)) then (IntKind.i64.wrap (a0_0.getD a0_1.toNat 0), a0_0, IntKind.i64.wrap (a0_1 + 1), IntKind.u64.wrap (IntKind.u64.wrap (IntKind.u64.wrap (a0_2 * 6364136223846793005) + IntKind.u64.wrap (IntKind.i64.wrap (a0_0.getD a0_1.toNat 0))) + 1442695040888963407)) else (IntKind.i64.wrap (bits BinOp.and IntKind.u64 (IntKind.u64.wrap (IntKind.u64.wrap (IntKind.u64.wrap (a0_2 * 6364136223846793005) + IntKind.u64.wrap (IntKind.i64.wrap (a0_0.getD a0_1.toNat 0))) + 1442695040888963407) / Int.ofNat 1099511627776) 255), a0_0, IntKind.i64.wrap (a0_1 + 1), IntKind.u64.wrap (IntKind.u64.wrap (IntKind.u64.wrap (a0_2 * 6364136223846793005) + IntKind.u64.wrap (IntKind.i64.wrap (a0_0.getD a0_1.toNat 0))) + 1442695040888963407))) else (bif decide (IntKind.i64.wrap (a0_1 + 1) ≤ (↑a0_0.length : Int)) then (0, a0_0, IntKind.i64.wrap (a0_1 + 1), IntKind.u64.wrap (IntKind.u64.wrap (IntKind.u64.wrap (a0_2 * 6364136223846793005) + Int.ofNat 0) + 1442695040888963407)) else (IntKind.i64.wrap (bits BinOp.and IntKind.u64 (IntKind.u64.wrap (IntKind.u64.wrap (IntKind.u64.wrap (a0_2 * 6364136223846793005) + Int.ofNat 0) + 1442695040888963407) / Int.ofNat 1099511627776) 255), a0_0, IntKind.i64.wrap (a0_1 + 1), IntKind.u64.wrap (IntKind.u64.wrap (IntKind.u64.wrap (a0_2 * 6364136223846793005) + Int.ofNat 0) + 1442695040888963407))))
def r_spec_l00Src_next (M : FOps) (a0_0 : (List Int)) (a0_1 : Int) (a0_2 : Int) : Bool :=
  (bif decide (a0_1 < (↑a0_0.length : Int)) then ((decide (0 ≤ a0_1) && decide (a0_1 < (↑a0_0.length : Int))) && true) else true)
def S_spec_l00Src_next (M : FOps) : FSpec := mkSpec (.cons (.pe (.pair (.ls (.int .u8)) (.pair (.int .i64) (.int .u64)))) .nil) (.cons (.one (.int .i64)) .nil) (fun x => r_spec_l00Src_next M x.1.1 x.1.2.1 x.1.2.2) (fun x => F_spec_l00Src_next (p_spec_l00Src_next M x.1.1 x.1.2.1 x.1.2.2))

def c0_spec_l00Src_pick (M : FOps) (a0_0 : (List Int)) (a0_1 : Int) (a0_2 : Int) (a1 : Int) : Int × List Int × Int × Int := p_spec_l00Src_next M a0_0 a0_1 a0_2
def c1_spec_l00Src_pick (M : FOps) (a0_0 : (List Int)) (a0_1 : Int) (a0_2 : Int) (a1 : Int) : Int × List Int × Int × Int := p_spec_l00Src_next M (c0_spec_l00Src_pick M a0_0 a0_1 a0_2 a1).snd.fst (c0_spec_l00Src_pick M a0_0 a0_1 a0_2 a1).snd.snd.fst (c0_spec_l00Src_pick M a0_0 a0_1 a0_2 a1).snd.snd.snd
def F_spec_l00Src_pick (r : Int × (List Int) × Int × Int) : AS.Ty (.cons (.one (.int .i64)) .nil) × List CS := ((r.1, ()), [.arr (.pair (.ls (.int .u8)) (.pair (.int .i64) (.int .u64))) [(r.2.1, (r.2.2.1, r.2.2.2))]])
def p_spec_l00Src_pick (M : FOps) (a0_0 : (List Int)) (a0_1 : Int) (a0_2 : Int) (a1 : Int) : Int × (List Int) × Int × Int :=
  (bif decide (a1 ≤ 1) then (0, a0_0, a0_1, a0_2) else (bif decide (a1 > 200) then ((IntKind.i64.wrap (IntKind.i64.wrap ((c0_spec_l00Src_pick M a0_0 a0_1 a0_2 a1).fst * 256) + (c1_spec_l00Src_pick M a0_0 a0_1 a0_2 a1).fst)).tmod a1, (c1_spec_l00Src_pick M a0_0 a0_1 a0_2 a1).snd.fst, (c1_spec_l00Src_pick M a0_0 a0_1 a0_2 a1).snd.snd.fst, (c1_spec_l00Src_pick M a0_0 a0_1 a0_2 a1).snd.snd.snd) else ((c0_spec_l00Src_pick M a0_0 a0_1 a0_2 a1).fst.tmod a1, (c0_spec_l00Src_pick M a0_0 a0_1 a0_2 a1).snd.fst, (c0_spec_l00Src_pick M a0_0 a0_1 a0_2 a1).snd.snd.fst, (c0_spec_l00Src_pick M a0_0 a0_1 a0_2 a1).snd.snd.snd)))
def r_spec_l00Src_pick (M : FOps) (a0_0 : (List Int)) (a0_1 : Int) (a0_2 : Int) (a1 : Int) : Bool :=
  (bif decide (a1 ≤ 1) then true else ((r_spec_l00Src_next M a0_0 a0_1 a0_2) && (bif decide (a1 > 200) then ((r_spec_l00Src_next M (c0_spec_l00Src_pick M a0_0 a0_1 a0_2 a1).snd.fst (c0_spec_l00Src_pick M a0_0 a0_1 a0_2 a1).snd.snd.fst (c0_spec_l00Src_pick M a0_0 a0_1 a0_2 a1).snd.snd.snd) && (!(a1 == 0) && true)) else (!(a1 == 0) && true))))
def S_spec_l00Src_pick (M : FOps) : FSpec := mkSpec (.cons (.pe (.pair (.ls (.int .u8)) (.pair (.int .i64) (.int .u64)))) (.cons (.one (.int .i64)) .nil)) (.cons (.one (.int .i64)) .nil) (fun x => r_spec_l00Src_pick M x.1.1 x.1.2.1 x.1.2.2 x.2.1) (fun x => F_spec_l00Src_pick (p_spec_l00Src_pick M x.1.1 x.1.2.1 x.1.2.2 x.2.1))

end
end Go.Dv
