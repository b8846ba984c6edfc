/- Functions that are handed an array for good and give it back, longer. -/
/- Printed by gen2.py. -/
import Derived.Test.YtgfplcpjnlignaaDoorZke
import Derived.Test.YtgfplcpjnlignaaDoorDs

namespace Go.Dv
open Go.RowKit Go.Cv

variable {P : Program} {Γ : CEnv}

/-- a contract that says nothing holds of whatever function -/
theorem ok_noSpec {P : Program} {f : FuncId} : OkFn P f noSpec := fun _ _ _ h => nomatch h
end Go.Dv


set_option linter.unusedVariables false
set_option linter.unusedSimpArgs false

-- GENERATED BELOW (gen.py)
namespace Go.Dv
open Go.Cv
noncomputable section
def F_spec_l00From (r : (List Int) × Int × Int) : AS.Ty (.cons (.pe (.pair (.ls (.int .u8)) (.pair (.int .i64) (.int .u64)))) .nil) × List CS := (((r.1, (r.2.1, r.2.2)), ()), [])
def p_spec_l00From (M : FOps) (a0 : (List Int)) : (List Int) × Int × Int :=
  (a0, 0, 0)
def S_spec_l00From (M : FOps) : FSpec := mkSpec (.cons (.fz (.ls (.int .u8))) .nil) (.cons (.pe (.pair (.ls (.int .u8)) (.pair (.int .i64) (.int .u64)))) .nil) (fun _ => true) (fun x => F_spec_l00From (p_spec_l00From M x.1))

def F_spec_l00Src_next (r : Int × (List Int) × Int × Int) : AS.Ty (.cons (.one (.int .i64)) .nil) × List CS := ((r.1, ()), [.arr (.pair (.ls (.int .u8)) (.pair (.int .i64) (.int .u64))) [(r.2.1, (r.2.2.1, r.2.2.2))]])
def p_spec_l00Src_next (M : FOps) (a0_0 : (List Int)) (a0_1 : Int) (a0_2 : Int) : Int × (List Int) × Int × Int :=
  (bif decide (a0_1 < (↑a0_0.length : Int)) then (bif decide (IntKind.i64.wrap (a0_1 + 1) ≤ (↑a0_0.length : Int)) then (IntKind.i64.wrap (a0_0.getD a0_1.toNat 0), a0_0, IntKind.i64.wrap (a0_1 + 1), IntKind.u64.wrap (IntKind.u64.wrap (IntKind.u64.wrap (a0_2 * 6364136223846793005) + IntKind.u64.wrap (IntKind.i64.wrap (a0_0.getD a0_1.toNat 0))) + 1442695040888963407)) else (IntKind.i64.wrap (bits BinOp.and IntKind.u64 (IntKind.u64.wrap (IntKind.u64.wrap (IntKind.u64.wrap (a0_2 * 6364136223846793005) + IntKind.u64.wrap (IntKind.i64.wrap (a0_0.getD a0_1.toNat 0))) + 1442695040888963407) / Int.ofNat 1099511627776) 255), a0_0, IntKind.i64.wrap (a0_1 + 1), IntKind.u64.wrap (IntKind.u64.wrap (IntKind.u64.wrap (a0_2 * 6364136223846793005) + IntKind.u64.wrap (IntKind.i64.wrap (a0_0.getD a0_1.toNat 0))) + 1442695040888963407))) else (bif decide (IntKind.i64.wrap (a0_1 + 1) ≤ (↑a0_0.length : Int)) then (0, a0_0, IntKind.i64.wrap (a0_1 + 1), IntKind.u64.wrap (IntKind.u64.wrap (IntKind.u64.wrap (a0_2 * 6364136223846793005) + Int.ofNat 0) + 1442695040888963407)) else (IntKind.i64.wrap (bits BinOp.and IntKind.u64 (IntKind.u64.wrap (IntKind.u64.wrap (IntKind.u64.wrap (a0_2 * 6364136223846793005) + Int.ofNat 0) + 1442695040888963407) / Int.ofNat 1099511627776) 255), a0_0, IntKind.i64.wrap (a0_1 + 1), IntKind.u64.wrap (IntKind.u64.wrap (IntKind.u64.wrap (a0_2 * 6364136223846793005) + Int.ofNat 0) + 1442695040888963407))))
def r_spec_l00Src_next (M : FOps) (a0_0 : (List Int)) (a0_1 : Int) (a0_2 : Int) : Bool :=
  (bif decide (a0_1 < (↑a0_0.length : Int)) then ((decide (0 ≤ a0_1) && decide (a0_1 < (↑a0_0.length : Int))) && true) else true)
def S_spec_l00Src_next (M : FOps) : FSpec := mkSpec (.cons (.pe (.pair (.ls (.int .u8)) (.pair (.int .i64) (.int .u64)))) .nil) (.cons (.one (.int .i64)) .nil) (fun x => r_spec_l00Src_next M x.1.1 x.1.2.1 x.1.2.2) (fun x => F_spec_l00Src_next (p_spec_l00Src_next M x.1.1 x.1.2.1 x.1.2.2))

def c0_spec_l00Src_pick (M : FOps) (a0_0 : (List Int)) (a0_1 : Int) (a0_2 : Int) (a1 : Int) : Int × List Int × Int × Int := p_spec_l00Src_next M a0_0 a0_1 a0_2
def c1_spec_l00Src_pick (M : FOps) (a0_0 : (List Int)) (a0_1 : Int) (a0_2 : Int) (a1 : Int) : Int × List Int × Int × Int := p_spec_l00Src_next M (c0_spec_l00Src_pick M a0_0 a0_1 a0_2 a1).snd.fst (c0_spec_l00Src_pick M a0_0 a0_1 a0_2 a1).snd.snd.fst (c0_spec_l00Src_pick M a0_0 a0_1 a0_2 a1).snd.snd.snd
def F_spec_l00Src_pick (r : Int × (List Int) × Int × Int) : AS.Ty (.cons (.one (.int .i64)) .nil) × List CS := ((r.1, ()), [.arr (.pair (.ls (.int .u8)) (.pair (.int .i64) (.int .u64))) [(r.2.1, (r.2.2.1, r.2.2.2))]])
def p_spec_l00Src_pick (M : FOps) (a0_0 : (List Int)) (a0_1 : Int) (a0_2 : Int) (a1 : Int) : Int × (List Int) × Int × Int :=
  (bif decide (a1 ≤ 1) then (0, a0_0, a0_1, a0_2) else (bif decide (a1 > 200) then ((IntKind.i64.wrap (IntKind.i64.wrap ((c0_spec_l00Src_pick M a0_0 a0_1 a0_2 a1).fst * 256) + (c1_spec_l00Src_pick M a0_0 a0_1 a0_2 a1).fst)).tmod a1, (c1_spec_l00Src_pick M a0_0 a0_1 a0_2 a1).snd.fst, (c1_spec_l00Src_pick M a0_0 a0_1 a0_2 a1).snd.snd.fst, (c1_spec_l00Src_pick M a0_0 a0_1 a0_2 a1).snd.snd.snd) else ((c0_spec_l00Src_pick M a0_0 a0_1 a0_2 a1).fst.tmod a1, (c0_spec_l00Src_pick M a0_0 a0_1 a0_2 a1).snd.fst, (c0_spec_l00Src_pick M a0_0 a0_1 a0_2 a1).snd.snd.fst, (c0_spec_l00Src_pick M a0_0 a0_1 a0_2 a1).snd.snd.snd)))
def r_spec_l00Src_pick (M : FOps) (a0_0 : (List Int)) (a0_1 : Int) (a0_2 : Int) (a1 : Int) : Bool :=
  (bif decide (a1 ≤ 1) then true else ((r_spec_l00Src_next M a0_0 a0_1 a0_2) && (bif decide (a1 > 200) then ((r_spec_l00Src_next M (c0_spec_l00Src_pick M a0_0 a0_1 a0_2 a1).snd.fst (c0_spec_l00Src_pick M a0_0 a0_1 a0_2 a1).snd.snd.fst (c0_spec_l00Src_pick M a0_0 a0_1 a0_2 a1).snd.snd.snd) && (!(a1 == 0) && true)) else (!(a1 == 0) && true))))
def S_spec_l00Src_pick (M : FOps) : FSpec := mkSpec (.cons (.pe (.pair (.ls (.int .u8)) (.pair (.int .i64) (.int .u64)))) (.cons (.one (.int .i64)) .nil)) (.cons (.one (.int .i64)) .nil) (fun x => r_spec_l00Src_pick M x.1.1 x.1.2.1 x.1.2.2 x.2.1) (fun x => F_spec_l00Src_pick (p_spec_l00Src_pick M x.1.1 x.1.2.1 x.1.2.2 x.2.1))

end
end Go.Dv


set_option linter.unusedVariables false
set_option linter.unusedSimpArgs false

-- GENERATED BELOW (gen.py)
namespace Go.Proofs.YtgfplcpjnlignaaDoor
open Go Go.Cv Go.Dv
set_option maxRecDepth 100000 in
theorem e_spec_l00From (M : FOps) (a0 : (List Int)) : cwp M Tryd.prog (envOf [(1000000000 + 80, noSpec)]) (lamOf []) 40 (Tryd.f23.body.getD .skip) 0 (retK Tryd.prog Tryd.f23.results.toList (.cons (.pe (.pair (.ls (.int .u8)) (.pair (.int .i64) (.int .u64)))) .nil) 0) (initSt (.cons (.fz (.ls (.int .u8))) .nil) (a0, ())) = some (F_spec_l00From (p_spec_l00From M a0)) := by kernel_rfl
theorem ok_spec_l00From : OkFn Tryd.prog 23 (S_spec_l00From R) :=
  okFn_of (good_cons ok_noSpec good_nil) follows Tryd.func23 rfl (by decide) (by decide) lam_nil (m := 1) (fun _ => rfl) (by decide) (fun _ _ h => nomatch h) (fun y c h => by simp [encR, encC] at h; first | (subst h; exact ⟨_, _, rfl⟩) | (rcases h with rfl | rfl <;> exact ⟨_, _, rfl⟩) | (rcases h with rfl | rfl | rfl <;> exact ⟨_, _, rfl⟩)) (fun x _ => ⟨40, e_spec_l00From R x.1⟩)

set_option maxRecDepth 100000 in
theorem e_spec_l00Src_next (M : FOps) (a0_0 : (List Int)) (a0_1 : Int) (a0_2 : Int) (h : r_spec_l00Src_next M a0_0 a0_1 a0_2 = true) : cwp M Tryd.prog (envOf []) (lamOf []) 40 (Tryd.f49.body.getD .skip) 0 (retK Tryd.prog Tryd.f49.results.toList (.cons (.one (.int .i64)) .nil) 1) (initSt (.cons (.pe (.pair (.ls (.int .u8)) (.pair (.int .i64) (.int .u64)))) .nil) ((a0_0, (a0_1, a0_2)), ())) = some (F_spec_l00Src_next (p_spec_l00Src_next M a0_0 a0_1 a0_2)) := 
  Eq.trans (b := (brT (decide (a0_1 < (↑a0_0.length : Int))) (brT (decide (0 ≤ a0_1) && decide (a0_1 < (↑a0_0.length : Int))) (brT (decide (IntKind.i64.wrap (a0_1 + 1) ≤ (↑a0_0.length : Int))) (some (F_spec_l00Src_next ((IntKind.i64.wrap (a0_0.getD a0_1.toNat 0), a0_0, IntKind.i64.wrap (a0_1 + 1), IntKind.u64.wrap (IntKind.u64.wrap (IntKind.u64.wrap (a0_2 * 6364136223846793005) + IntKind.u64.wrap (IntKind.i64.wrap (a0_0.getD a0_1.toNat 0))) + 1442695040888963407))))) (some (F_spec_l00Src_next ((IntKind.i64.wrap (bits BinOp.and IntKind.u64 (IntKind.u64.wrap (IntKind.u64.wrap (IntKind.u64.wrap (a0_2 * 6364136223846793005) + IntKind.u64.wrap (IntKind.i64.wrap (a0_0.getD a0_1.toNat 0))) + 1442695040888963407) / Int.ofNat 1099511627776) 255), a0_0, IntKind.i64.wrap (a0_1 + 1), IntKind.u64.wrap (IntKind.u64.wrap (IntKind.u64.wrap (a0_2 * 6364136223846793005) + IntKind.u64.wrap (IntKind.i64.wrap (a0_0.getD a0_1.toNat 0))) + 1442695040888963407)))))) none) (brT (decide (IntKind.i64.wrap (a0_1 + 1) ≤ (↑a0_0.length : Int))) (some (F_spec_l00Src_next ((0, a0_0, IntKind.i64.wrap (a0_1 + 1), IntKind.u64.wrap (IntKind.u64.wrap (IntKind.u64.wrap (a0_2 * 6364136223846793005) + Int.ofNat 0) + 1442695040888963407))))) (some (F_spec_l00Src_next ((IntKind.i64.wrap (bits BinOp.and IntKind.u64 (IntKind.u64.wrap (IntKind.u64.wrap (IntKind.u64.wrap (a0_2 * 6364136223846793005) + Int.ofNat 0) + 1442695040888963407) / Int.ofNat 1099511627776) 255), a0_0, IntKind.i64.wrap (a0_1 + 1), IntKind.u64.wrap (IntKind.u64.wrap (IntKind.u64.wrap (a0_2 * 6364136223846793005) + Int.ofNat 0) + 1442695040888963407)))))))) (by kernel_rfl)
    ((pushR (pushL (fun _ => (push2 rfl rfl))) (fun _ => (push2 rfl rfl))) h)
theorem ok_spec_l00Src_next : OkFn Tryd.prog 49 (S_spec_l00Src_next R) :=
  okFn_of good_nil follows Tryd.func49 rfl (by decide) (by decide) lam_nil (m := 1) (fun _ => rfl) (by decide) (fun _ c h => by simp [F_spec_l00Src_next] at h; rcases h with rfl <;> exact ⟨_, _, rfl⟩) (fun _ _ h => nomatch h) (fun x hx => ⟨40, e_spec_l00Src_next R x.1.1 x.1.2.1 x.1.2.2 hx⟩)

set_option maxRecDepth 100000 in
theorem e_spec_l00Src_pick (M : FOps) (a0_0 : (List Int)) (a0_1 : Int) (a0_2 : Int) (a1 : Int) (h : r_spec_l00Src_pick M a0_0 a0_1 a0_2 a1 = true) : cwp M Tryd.prog (envOf [(49, S_spec_l00Src_next M)]) (lamOf []) 40 (Tryd.f24.body.getD .skip) 0 (retK Tryd.prog Tryd.f24.results.toList (.cons (.one (.int .i64)) .nil) 1) (initSt (.cons (.pe (.pair (.ls (.int .u8)) (.pair (.int .i64) (.int .u64)))) (.cons (.one (.int .i64)) .nil)) ((a0_0, (a0_1, a0_2)), (a1, ()))) = some (F_spec_l00Src_pick (p_spec_l00Src_pick M a0_0 a0_1 a0_2 a1)) := 
  Eq.trans (b := (brT (decide (a1 ≤ 1)) (some (F_spec_l00Src_pick ((0, a0_0, a0_1, a0_2)))) (brT (r_spec_l00Src_next M a0_0 a0_1 a0_2) (brT (decide (a1 > 200)) (brT (r_spec_l00Src_next M (c0_spec_l00Src_pick M a0_0 a0_1 a0_2 a1).snd.fst (c0_spec_l00Src_pick M a0_0 a0_1 a0_2 a1).snd.snd.fst (c0_spec_l00Src_pick M a0_0 a0_1 a0_2 a1).snd.snd.snd) (brT (a1 == 0) none (some (F_spec_l00Src_pick (((IntKind.i64.wrap (IntKind.i64.wrap ((c0_spec_l00Src_pick M a0_0 a0_1 a0_2 a1).fst * 256) + (c1_spec_l00Src_pick M a0_0 a0_1 a0_2 a1).fst)).tmod a1, (c1_spec_l00Src_pick M a0_0 a0_1 a0_2 a1).snd.fst, (c1_spec_l00Src_pick M a0_0 a0_1 a0_2 a1).snd.snd.fst, (c1_spec_l00Src_pick M a0_0 a0_1 a0_2 a1).snd.snd.snd))))) none) (brT (a1 == 0) none (some (F_spec_l00Src_pick (((c0_spec_l00Src_pick M a0_0 a0_1 a0_2 a1).fst.tmod a1, (c0_spec_l00Src_pick M a0_0 a0_1 a0_2 a1).snd.fst, (c0_spec_l00Src_pick M a0_0 a0_1 a0_2 a1).snd.snd.fst, (c0_spec_l00Src_pick M a0_0 a0_1 a0_2 a1).snd.snd.snd)))))) none))) (by kernel_rfl)
    ((pushR (fun _ => rfl) (pushL (pushR (pushL (pushN (fun _ => rfl))) (pushN (fun _ => rfl))))) h)
theorem ok_spec_l00Src_pick : OkFn Tryd.prog 24 (S_spec_l00Src_pick R) :=
  okFn_of (good_cons ok_spec_l00Src_next good_nil) follows Tryd.func24 rfl (by decide) (by decide) lam_nil (m := 2) (fun _ => rfl) (by decide) (fun _ c h => by simp [F_spec_l00Src_pick] at h; rcases h with rfl <;> exact ⟨_, _, rfl⟩) (fun _ _ h => nomatch h) (fun x hx => ⟨40, e_spec_l00Src_pick R x.1.1 x.1.2.1 x.1.2.2 x.2.1 hx⟩)

end Go.Proofs.YtgfplcpjnlignaaDoor
