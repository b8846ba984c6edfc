/- Printed by gen2.py. -/
import Derived.Test.YtgfplcpjnlignaaDoorZlp

set_option linter.unusedVariables false
set_option linter.unusedSimpArgs false

-- GENERATED BELOW (gen.py)
namespace Go.Dv
open Go.Cv
noncomputable section
/-- impl.RecoverTracks, loop 0: (.tv 0 false .str) (.to 5 0 (.pair .str (.ls (.pair (.fl .f32) (.fl .f32))))) (.tv 6 false (.int .i64)) (.to 2 1 (.pair .str (.ls (.pair (.fl .f32) (.fl .f32))))) (.tv 3 false (.int .i64)) (.tv 4 false .bool) -/
def k0_impl_RecoverTracks_0 (M : FOps) (v0 : ByteArray) (v1 : (List (ByteArray × (List (Nat × Nat))))) (v2 : Int) (v3 : (List (ByteArray × (List (Nat × Nat))))) (v4 : Int) (v5 : Bool) : ByteArray := p_sub v0 ((some v2).getD 0).toNat (none.getD (↑v0.size : Int)).toNat
def k1_impl_RecoverTracks_0 (M : FOps) (v0 : ByteArray) (v1 : (List (ByteArray × (List (Nat × Nat))))) (v2 : Int) (v3 : (List (ByteArray × (List (Nat × Nat))))) (v4 : Int) (v5 : Bool) : ByteArray × List (Nat × Nat) × Int × Bool := p_impl_loadTrack M (k0_impl_RecoverTracks_0 M v0 v1 v2 v3 v4 v5)
def st_impl_RecoverTracks_0 (M : FOps) (v0 : ByteArray) (v1 : (List (ByteArray × (List (Nat × Nat))))) (v2 : Int) (v3 : (List (ByteArray × (List (Nat × Nat))))) (v4 : Int) (v5 : Bool) : Option ((ByteArray × (List (ByteArray × (List (Nat × Nat)))) × Int × (List (ByteArray × (List (Nat × Nat)))) × Int × Bool × Unit) ⊕ ((List (ByteArray × (List (Nat × Nat)))) × Int × (List (ByteArray × (List (Nat × Nat)))) × Int × Bool × Unit)) :=
  (brT (decide ((↑v1.length : Int) < 8)) (brT (decide (0 ≤ (some v2).getD 0) && decide ((some v2).getD 0 ≤ none.getD (↑v0.size : Int)) && decide (none.getD (↑v0.size : Int) ≤ (↑v0.size : Int))) (brT (r_impl_loadTrack M (k0_impl_RecoverTracks_0 M v0 v1 v2 v3 v4 v5)) (brT (!(k1_impl_RecoverTracks_0 M v0 v1 v2 v3 v4 v5).snd.snd.snd) (brT (v1.length.beq v1.length && (v3.length.beq v3.length && true)) (some (.inr (v1, (v2, (v3, (v4, (v5, ()))))))) none) (brT ((k1_impl_RecoverTracks_0 M v0 v1 v2 v3 v4 v5).snd.fst.length.beq (k1_impl_RecoverTracks_0 M v0 v1 v2 v3 v4 v5).snd.fst.length) (brT (v1.length.beq v1.length && (v1.length + [((k1_impl_RecoverTracks_0 M v0 v1 v2 v3 v4 v5).fst, (k1_impl_RecoverTracks_0 M v0 v1 v2 v3 v4 v5).snd.fst)].length).ble 1073741824) (brT ((v1 ++ [((k1_impl_RecoverTracks_0 M v0 v1 v2 v3 v4 v5).fst, (k1_impl_RecoverTracks_0 M v0 v1 v2 v3 v4 v5).snd.fst)]).length.beq (v1 ++ [((k1_impl_RecoverTracks_0 M v0 v1 v2 v3 v4 v5).fst, (k1_impl_RecoverTracks_0 M v0 v1 v2 v3 v4 v5).snd.fst)]).length && (v3.length.beq v3.length && true)) (some (.inl (v0, (v1 ++ [((k1_impl_RecoverTracks_0 M v0 v1 v2 v3 v4 v5).fst, (k1_impl_RecoverTracks_0 M v0 v1 v2 v3 v4 v5).snd.fst)], (IntKind.i64.wrap (v2 + (k1_impl_RecoverTracks_0 M v0 v1 v2 v3 v4 v5).snd.snd.fst), (v3, (v4, (v5, ())))))))) none) none) none)) none) none) (brT (v1.length.beq v1.length && (v3.length.beq v3.length && true)) (some (.inr (v1, (v2, (v3, (v4, (v5, ()))))))) none))
def W_impl_RecoverTracks_0 (M : FOps) : (ByteArray × (List (ByteArray × (List (Nat × Nat)))) × Int × (List (ByteArray × (List (Nat × Nat)))) × Int × Bool × Unit) → Option ((List (ByteArray × (List (Nat × Nat)))) × Int × (List (ByteArray × (List (Nat × Nat)))) × Int × Bool × Unit) := runW (fun x => st_impl_RecoverTracks_0 M x.1 x.2.1 x.2.2.1 x.2.2.2.1 x.2.2.2.2.1 x.2.2.2.2.2.1)
def L_impl_RecoverTracks_0 (M : FOps) : LSpec := mkL (.cons (.tv 0 false .str) (.cons (.to 5 0 (.pair .str (.ls (.pair (.fl .f32) (.fl .f32))))) (.cons (.tv 6 false (.int .i64)) (.cons (.to 2 1 (.pair .str (.ls (.pair (.fl .f32) (.fl .f32))))) (.cons (.tv 3 false (.int .i64)) (.cons (.tv 4 false .bool) .nil)))))) [((.exit 0), (.cons (.to 5 0 (.pair .str (.ls (.pair (.fl .f32) (.fl .f32))))) (.cons (.tv 6 false (.int .i64)) (.cons (.to 2 1 (.pair .str (.ls (.pair (.fl .f32) (.fl .f32))))) (.cons (.tv 3 false (.int .i64)) (.cons (.tv 4 false .bool) .nil))))))] 2 0 (W_impl_RecoverTracks_0 M)
def c0_impl_RecoverTracks (M : FOps) (a0 : ByteArray) : Option (List (ByteArray × List (Nat × Nat)) × Int × List (ByteArray × List (Nat × Nat)) × Int × Bool × Unit) := W_impl_RecoverTracks_0 M (a0, [], 0, [], 0, false, ())
def F_impl_RecoverTracks (r : (List (ByteArray × (List (Nat × Nat)))) × Int × Bool) : AS.Ty (.cons (.one (.ls (.pair .str (.ls (.pair (.fl .f32) (.fl .f32)))))) (.cons (.one (.int .i64)) (.cons (.one .bool) .nil))) × List CS := ((r.1, (r.2.1, (r.2.2, ()))), [])
def p_impl_RecoverTracks (M : FOps) (a0 : ByteArray) : (List (ByteArray × (List (Nat × Nat)))) × Int × Bool :=
  (((c0_impl_RecoverTracks M a0).getD ([], 0, [], 0, false, ())).fst, ((c0_impl_RecoverTracks M a0).getD ([], 0, [], 0, false, ())).snd.fst, true)
def r_impl_RecoverTracks (M : FOps) (a0 : ByteArray) : Bool :=
  (((c0_impl_RecoverTracks M a0).isSome) && (((List.length ((c0_impl_RecoverTracks M a0).getD ([], 0, [], 0, false, ())).fst).beq (List.length ((c0_impl_RecoverTracks M a0).getD ([], 0, [], 0, false, ())).fst) && true) && true))
def S_impl_RecoverTracks (M : FOps) : FSpec := mkSpec (.cons (.one .str) .nil) (.cons (.one (.ls (.pair .str (.ls (.pair (.fl .f32) (.fl .f32)))))) (.cons (.one (.int .i64)) (.cons (.one .bool) .nil))) (fun x => r_impl_RecoverTracks M x.1) (fun x => F_impl_RecoverTracks (p_impl_RecoverTracks M x.1))

def S_impl_RecoverTracks_fz (M : FOps) : FSpec := frzS (S_impl_RecoverTracks M)

end
end Go.Dv


set_option linter.unusedVariables false
set_option linter.unusedSimpArgs false

-- GENERATED BELOW (gen.py)
namespace Go.Proofs.YtgfplcpjnlignaaDoor
open Go Go.Cv Go.Dv
set_option maxRecDepth 100000 in
theorem hs_impl_RecoverTracks_0 (M : FOps) (v0 : ByteArray) (v1 : (List (ByteArray × (List (Nat × Nat))))) (v2 : Int) (v3 : (List (ByteArray × (List (Nat × Nat))))) (v4 : Int) (v5 : Bool) : cwp M Tryd.prog (envOf [(28, S_impl_loadTrack M)]) (lamOf []) 40 ((loopsOf (Tryd.f12.body.getD .skip)).getD 0 .skip) 1 (stepK (.cons (.tv 0 false .str) (.cons (.to 5 0 (.pair .str (.ls (.pair (.fl .f32) (.fl .f32))))) (.cons (.tv 6 false (.int .i64)) (.cons (.to 2 1 (.pair .str (.ls (.pair (.fl .f32) (.fl .f32))))) (.cons (.tv 3 false (.int .i64)) (.cons (.tv 4 false .bool) .nil)))))) [((.exit 0), (.cons (.to 5 0 (.pair .str (.ls (.pair (.fl .f32) (.fl .f32))))) (.cons (.tv 6 false (.int .i64)) (.cons (.to 2 1 (.pair .str (.ls (.pair (.fl .f32) (.fl .f32))))) (.cons (.tv 3 false (.int .i64)) (.cons (.tv 4 false .bool) .nil))))))]) (canon (.cons (.tv 0 false .str) (.cons (.to 5 0 (.pair .str (.ls (.pair (.fl .f32) (.fl .f32))))) (.cons (.tv 6 false (.int .i64)) (.cons (.to 2 1 (.pair .str (.ls (.pair (.fl .f32) (.fl .f32))))) (.cons (.tv 3 false (.int .i64)) (.cons (.tv 4 false .bool) .nil)))))) 2 0 (v0, (v1, (v2, (v3, (v4, (v5, ()))))))) = st_impl_RecoverTracks_0 M v0 v1 v2 v3 v4 v5 := by
  unfold st_impl_RecoverTracks_0
  kernel_rfl
set_option maxRecDepth 100000 in
theorem lk_impl_RecoverTracks_0 : LOk Tryd.prog Tryd.f12.ntmps ((loopsOf (Tryd.f12.body.getD .skip)).getD 0 .skip) (L_impl_RecoverTracks_0 R) :=
  lok (F := 40) (Λ := lamOf []) (b := 1) (good_cons ok_impl_loadTrack good_nil) follows (by kernel_rfl) (fun _ _ _ _ h => nomatch h) (by decide) (by decide) (by decide) (fun x => hs_impl_RecoverTracks_0 R x.1 x.2.1 x.2.2.1 x.2.2.2.1 x.2.2.2.2.1 x.2.2.2.2.2.1)
set_option maxRecDepth 100000 in
theorem e_impl_RecoverTracks (M : FOps) (a0 : ByteArray) (h : r_impl_RecoverTracks M a0 = true) : cwp M Tryd.prog (envOf [(28, S_impl_loadTrack M)]) (lamOf [(0, L_impl_RecoverTracks_0 M)]) 40 (Tryd.f12.body.getD .skip) 0 (retK Tryd.prog Tryd.f12.results.toList (.cons (.one (.ls (.pair .str (.ls (.pair (.fl .f32) (.fl .f32)))))) (.cons (.one (.int .i64)) (.cons (.one .bool) .nil))) 0) (initSt (.cons (.one .str) .nil) (a0, ())) = some (F_impl_RecoverTracks (p_impl_RecoverTracks M a0)) := 
  Eq.trans (b := (brT ((c0_impl_RecoverTracks M a0).isSome) (brT ((List.length ((c0_impl_RecoverTracks M a0).getD ([], 0, [], 0, false, ())).fst).beq (List.length ((c0_impl_RecoverTracks M a0).getD ([], 0, [], 0, false, ())).fst) && true) (some (F_impl_RecoverTracks ((((c0_impl_RecoverTracks M a0).getD ([], 0, [], 0, false, ())).fst, ((c0_impl_RecoverTracks M a0).getD ([], 0, [], 0, false, ())).snd.fst, true)))) none) none)) (by kernel_rfl)
    ((pushL (pushL (fun _ => rfl))) h)
theorem ok_impl_RecoverTracks : OkFn Tryd.prog 12 (S_impl_RecoverTracks R) :=
  okFn_of (good_cons ok_impl_loadTrack good_nil) follows Tryd.func12 rfl (by decide) (by decide) (lam_cons (i := 0) (cc := (loopsOf (Tryd.f12.body.getD .skip)).getD 0 .skip) (by kernel_rfl) lk_impl_RecoverTracks_0 lam_nil) (m := 1) (fun _ => rfl) (by decide) (fun _ _ h => nomatch h) (fun y c h => by simp [encR, encC] at h; first | (subst h; exact ⟨_, _, rfl⟩) | (rcases h with rfl | rfl <;> exact ⟨_, _, rfl⟩) | (rcases h with rfl | rfl | rfl <;> exact ⟨_, _, rfl⟩)) (fun x hx => ⟨40, e_impl_RecoverTracks R x.1 hx⟩)

theorem ok_impl_RecoverTracks_fz : OkFn Tryd.prog 12 (S_impl_RecoverTracks_fz R) := frz_okFn frz_mk ok_impl_RecoverTracks

end Go.Proofs.YtgfplcpjnlignaaDoor
