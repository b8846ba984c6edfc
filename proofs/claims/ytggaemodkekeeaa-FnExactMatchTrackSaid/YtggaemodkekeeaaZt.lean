/- Printed by gen2.py. -/
import Derived.Test.YtggaemodkekeeaaYa
import Derived.Test.YtggaemodkekeeaaQa

set_option linter.unusedVariables false
set_option linter.unusedSimpArgs false

-- GENERATED BELOW (gen.py)
namespace Go.Dv
open Go.Cv
noncomputable section
/-- laws.toPlaceS, loop 0: (.tv 0 true (.ls (.pair (.fl .f32) (.fl .f32)))) (.to 3 0 (.pair (.fl .f32) (.fl .f32))) (.tv 4 false (.int .i64)) -/
def st_laws_toPlaceS_w_0 (M : FOps) (v0 : (List (Nat × Nat))) (v1 : (List (Nat × Nat))) (v2 : Int) : Option (((List (Nat × Nat)) × (List (Nat × Nat)) × Int × Unit) ⊕ ((List (Nat × Nat)) × Unit)) :=
  (brT (decide (v2 < (↑v0.length : Int))) (brT (decide (0 ≤ v2) && decide (v2 < (↑v0.length : Int))) (brT (decide (0 ≤ v2) && decide (v2 < (↑v1.length : Int))) (brT (v2.toNat.blt v1.length && true) (brT (v1.length.beq (v1.set v2.toNat ((p_laws_toPlace M (v0.getD v2.toNat (0, 0)).1 (v0.getD v2.toNat (0, 0)).2).1, (p_laws_toPlace M (v0.getD v2.toNat (0, 0)).1 (v0.getD v2.toNat (0, 0)).2).2)).length && true) (some (.inl (v0, (v1.set v2.toNat ((p_laws_toPlace M (v0.getD v2.toNat (0, 0)).1 (v0.getD v2.toNat (0, 0)).2).1, (p_laws_toPlace M (v0.getD v2.toNat (0, 0)).1 (v0.getD v2.toNat (0, 0)).2).2), (IntKind.i64.wrap (v2 + 1), ()))))) none) none) none) none) (brT (v1.length.beq v1.length && true) (some (.inr (v1, ()))) none))
def W_laws_toPlaceS_w_0 (M : FOps) : ((List (Nat × Nat)) × (List (Nat × Nat)) × Int × Unit) → Option ((List (Nat × Nat)) × Unit) := runW (fun x => st_laws_toPlaceS_w_0 M x.1 x.2.1 x.2.2.1)
def L_laws_toPlaceS_w_0 (M : FOps) : LSpec := mkL (.cons (.tv 0 true (.ls (.pair (.fl .f32) (.fl .f32)))) (.cons (.to 3 0 (.pair (.fl .f32) (.fl .f32))) (.cons (.tv 4 false (.int .i64)) .nil))) [((.exit 0), (.cons (.to 3 0 (.pair (.fl .f32) (.fl .f32))) .nil))] 1 0 (W_laws_toPlaceS_w_0 M)
def c0_laws_toPlaceS_w (M : FOps) (a0 : (List (Nat × Nat))) : Option (List (Nat × Nat) × Unit) := W_laws_toPlaceS_w_0 M (a0, List.replicate (↑a0.length : Int).toNat (0, 0), 0, ())
def F_laws_toPlaceS_w (r : (List (Nat × Nat))) : AS.Ty (.cons (.one (.ls (.pair (.fl .f32) (.fl .f32)))) .nil) × List CS := ((r, ()), [])
def p_laws_toPlaceS_w (M : FOps) (a0 : (List (Nat × Nat))) : (List (Nat × Nat)) :=
  ((c0_laws_toPlaceS_w M a0).getD ([], ())).1
def r_laws_toPlaceS_w (M : FOps) (a0 : (List (Nat × Nat))) : Bool :=
  ((decide ((↑a0.length : Int) ≤ (↑a0.length : Int)) && decide ((↑a0.length : Int) ≤ Int.ofNat 1073741824)) && (((List.replicate (↑a0.length : Int).toNat (0, 0)).length.beq (List.replicate (↑a0.length : Int).toNat (0, 0)).length && true) && (((c0_laws_toPlaceS_w M a0).isSome) && (((List.length ((c0_laws_toPlaceS_w M a0).getD ([], ())).1).beq (List.length ((c0_laws_toPlaceS_w M a0).getD ([], ())).1) && true) && true))))
def S_laws_toPlaceS_w (M : FOps) : FSpec := mkSpec (.cons (.one (.ls (.pair (.fl .f32) (.fl .f32)))) .nil) (.cons (.one (.ls (.pair (.fl .f32) (.fl .f32)))) .nil) (fun x => r_laws_toPlaceS_w M x.1) (fun x => F_laws_toPlaceS_w (p_laws_toPlaceS_w M x.1))

/-- laws.eqPlaceS, loop 0: (.tv 0 true (.ls (.pair (.fl .f32) (.fl .f32)))) (.tv 1 true (.ls (.pair (.fl .f32) (.fl .f32)))) (.tv 5 false (.int .i64)) (.tv 4 false .bool) -/
def st_laws_eqPlaceS_w_0 (M : FOps) (v0 : (List (Nat × Nat))) (v1 : (List (Nat × Nat))) (v2 : Int) (v3 : Bool) : Option (((List (Nat × Nat)) × (List (Nat × Nat)) × Int × Bool × Unit) ⊕ ((Bool × Unit) ⊕ (Bool × Unit))) :=
  (brT (decide (v2 < (↑v0.length : Int))) (brT (decide (0 ≤ v2) && decide (v2 < (↑v0.length : Int))) (brT (decide (0 ≤ v2) && decide (v2 < (↑v1.length : Int))) (brT (!p_laws_eqPlace M (v0.getD v2.toNat (0, 0)).1 (v0.getD v2.toNat (0, 0)).2 (v1.getD v2.toNat (0, 0)).1 (v1.getD v2.toNat (0, 0)).2) (some (.inr (.inl (false, ())))) (some (.inl (v0, (v1, (IntKind.i64.wrap (v2 + 1), (v3, ()))))))) none) none) (some (.inr (.inr (v3, ())))))
def W_laws_eqPlaceS_w_0 (M : FOps) : ((List (Nat × Nat)) × (List (Nat × Nat)) × Int × Bool × Unit) → Option ((Bool × Unit) ⊕ (Bool × Unit)) := runW (fun x => st_laws_eqPlaceS_w_0 M x.1 x.2.1 x.2.2.1 x.2.2.2.1)
def L_laws_eqPlaceS_w_0 (M : FOps) : LSpec := mkL (.cons (.tv 0 true (.ls (.pair (.fl .f32) (.fl .f32)))) (.cons (.tv 1 true (.ls (.pair (.fl .f32) (.fl .f32)))) (.cons (.tv 5 false (.int .i64)) (.cons (.tv 4 false .bool) .nil)))) [(.ret, (.cons (.tv 4 false .bool) .nil)), ((.exit 0), (.cons (.tv 4 false .bool) .nil))] 0 0 (W_laws_eqPlaceS_w_0 M)
def c0_laws_eqPlaceS_w (M : FOps) (a0 : (List (Nat × Nat))) (a1 : (List (Nat × Nat))) : Option (Bool × Unit ⊕ Bool × Unit) := W_laws_eqPlaceS_w_0 M (a0, a1, 0, false, ())
def F_laws_eqPlaceS_w (r : Bool) : AS.Ty (.cons (.one .bool) .nil) × List CS := ((r, ()), [])
def p_laws_eqPlaceS_w (M : FOps) (a0 : (List (Nat × Nat))) (a1 : (List (Nat × Nat))) : Bool :=
  (bif (↑a0.length : Int) != (↑a1.length : Int) then false else (bif isL ((c0_laws_eqPlaceS_w M a0 a1).getD (Sum.inl (false, ()))) then (getL (false, ()) ((c0_laws_eqPlaceS_w M a0 a1).getD (Sum.inl (false, ())))).1 else true))
def r_laws_eqPlaceS_w (M : FOps) (a0 : (List (Nat × Nat))) (a1 : (List (Nat × Nat))) : Bool :=
  (bif (↑a0.length : Int) != (↑a1.length : Int) then true else (((c0_laws_eqPlaceS_w M a0 a1).isSome) && true))
def S_laws_eqPlaceS_w (M : FOps) : FSpec := mkSpec (.cons (.one (.ls (.pair (.fl .f32) (.fl .f32)))) (.cons (.one (.ls (.pair (.fl .f32) (.fl .f32)))) .nil)) (.cons (.one .bool) .nil) (fun x => r_laws_eqPlaceS_w M x.1 x.2.1) (fun x => F_laws_eqPlaceS_w (p_laws_eqPlaceS_w M x.1 x.2.1))

end
end Go.Dv


set_option linter.unusedVariables false
set_option linter.unusedSimpArgs false

-- GENERATED BELOW (gen.py)
namespace Go.Proofs.Ytggaemodkekeeaa
open Go Go.Cv Go.Dv
set_option maxRecDepth 100000 in
theorem hs_laws_toPlaceS_w_0 (M : FOps) (v0 : (List (Nat × Nat))) (v1 : (List (Nat × Nat))) (v2 : Int) : cwp M Try.prog (envOf [(32, S_laws_toPlace M)]) (lamOf []) 40 ((loopsOf (Try.f9.body.getD .skip)).getD 0 .skip) 1 (stepK (.cons (.tv 0 true (.ls (.pair (.fl .f32) (.fl .f32)))) (.cons (.to 3 0 (.pair (.fl .f32) (.fl .f32))) (.cons (.tv 4 false (.int .i64)) .nil))) [((.exit 0), (.cons (.to 3 0 (.pair (.fl .f32) (.fl .f32))) .nil))]) (canon (.cons (.tv 0 true (.ls (.pair (.fl .f32) (.fl .f32)))) (.cons (.to 3 0 (.pair (.fl .f32) (.fl .f32))) (.cons (.tv 4 false (.int .i64)) .nil))) 1 0 (v0, (v1, (v2, ())))) = st_laws_toPlaceS_w_0 M v0 v1 v2 := by
  unfold st_laws_toPlaceS_w_0
  kernel_rfl
set_option maxRecDepth 100000 in
theorem lk_laws_toPlaceS_w_0 : LOk Try.prog Try.f9.ntmps ((loopsOf (Try.f9.body.getD .skip)).getD 0 .skip) (L_laws_toPlaceS_w_0 R) :=
  lok (F := 40) (Λ := lamOf []) (b := 1) (good_cons ok_laws_toPlace good_nil) follows (by kernel_rfl) (fun _ _ _ _ h => nomatch h) (by decide) (by decide) (by decide) (fun x => hs_laws_toPlaceS_w_0 R x.1 x.2.1 x.2.2.1)
set_option maxRecDepth 100000 in
theorem e_laws_toPlaceS_w (M : FOps) (a0 : (List (Nat × Nat))) (h : r_laws_toPlaceS_w M a0 = true) : cwp M Try.prog (envOf [(32, S_laws_toPlace M)]) (lamOf [(0, L_laws_toPlaceS_w_0 M)]) 40 (Try.f9.body.getD .skip) 0 (retK Try.prog Try.f9.results.toList (.cons (.one (.ls (.pair (.fl .f32) (.fl .f32)))) .nil) 0) (initSt (.cons (.one (.ls (.pair (.fl .f32) (.fl .f32)))) .nil) (a0, ())) = some (F_laws_toPlaceS_w (p_laws_toPlaceS_w M a0)) := 
  Eq.trans (b := (brT (decide ((↑a0.length : Int) ≤ (↑a0.length : Int)) && decide ((↑a0.length : Int) ≤ Int.ofNat 1073741824)) (brT ((List.replicate (↑a0.length : Int).toNat (0, 0)).length.beq (List.replicate (↑a0.length : Int).toNat (0, 0)).length && true) (brT ((c0_laws_toPlaceS_w M a0).isSome) (brT ((List.length ((c0_laws_toPlaceS_w M a0).getD ([], ())).1).beq (List.length ((c0_laws_toPlaceS_w M a0).getD ([], ())).1) && true) (some (F_laws_toPlaceS_w (((c0_laws_toPlaceS_w M a0).getD ([], ())).1))) none) none) none) none)) (by kernel_rfl)
    ((pushL (pushL (pushL (pushL (fun _ => rfl))))) h)
theorem ok_laws_toPlaceS_w : OkFn Try.prog 9 (S_laws_toPlaceS_w R) :=
  okFn_of (good_cons ok_laws_toPlace good_nil) follows Try.func9 rfl (by decide) (by decide) (lam_cons (i := 0) (cc := (loopsOf (Try.f9.body.getD .skip)).getD 0 .skip) (by kernel_rfl) lk_laws_toPlaceS_w_0 lam_nil) (m := 1) (fun _ => rfl) (by decide) (fun _ _ h => nomatch h) (fun y c h => by simp [encR, encC] at h; first | (subst h; exact ⟨_, _, rfl⟩) | (rcases h with rfl | rfl <;> exact ⟨_, _, rfl⟩) | (rcases h with rfl | rfl | rfl <;> exact ⟨_, _, rfl⟩)) (fun x hx => ⟨40, e_laws_toPlaceS_w R x.1 hx⟩)

set_option maxRecDepth 100000 in
theorem hs_laws_eqPlaceS_w_0 (M : FOps) (v0 : (List (Nat × Nat))) (v1 : (List (Nat × Nat))) (v2 : Int) (v3 : Bool) : cwp M Try.prog (envOf [(42, S_laws_eqPlace M)]) (lamOf []) 40 ((loopsOf (Try.f13.body.getD .skip)).getD 0 .skip) 1 (stepK (.cons (.tv 0 true (.ls (.pair (.fl .f32) (.fl .f32)))) (.cons (.tv 1 true (.ls (.pair (.fl .f32) (.fl .f32)))) (.cons (.tv 5 false (.int .i64)) (.cons (.tv 4 false .bool) .nil)))) [(.ret, (.cons (.tv 4 false .bool) .nil)), ((.exit 0), (.cons (.tv 4 false .bool) .nil))]) (canon (.cons (.tv 0 true (.ls (.pair (.fl .f32) (.fl .f32)))) (.cons (.tv 1 true (.ls (.pair (.fl .f32) (.fl .f32)))) (.cons (.tv 5 false (.int .i64)) (.cons (.tv 4 false .bool) .nil)))) 0 0 (v0, (v1, (v2, (v3, ()))))) = st_laws_eqPlaceS_w_0 M v0 v1 v2 v3 := by
  unfold st_laws_eqPlaceS_w_0
  kernel_rfl
set_option maxRecDepth 100000 in
theorem lk_laws_eqPlaceS_w_0 : LOk Try.prog Try.f13.ntmps ((loopsOf (Try.f13.body.getD .skip)).getD 0 .skip) (L_laws_eqPlaceS_w_0 R) :=
  lok (F := 40) (Λ := lamOf []) (b := 1) (good_cons ok_laws_eqPlace good_nil) follows (by kernel_rfl) (fun _ _ _ _ h => nomatch h) (by decide) (by decide) (by decide) (fun x => hs_laws_eqPlaceS_w_0 R x.1 x.2.1 x.2.2.1 x.2.2.2.1)
set_option maxRecDepth 100000 in
theorem e_laws_eqPlaceS_w (M : FOps) (a0 : (List (Nat × Nat))) (a1 : (List (Nat × Nat))) (h : r_laws_eqPlaceS_w M a0 a1 = true) : cwp M Try.prog (envOf [(42, S_laws_eqPlace M)]) (lamOf [(0, L_laws_eqPlaceS_w_0 M)]) 40 (Try.f13.body.getD .skip) 0 (retK Try.prog Try.f13.results.toList (.cons (.one .bool) .nil) 0) (initSt (.cons (.one (.ls (.pair (.fl .f32) (.fl .f32)))) (.cons (.one (.ls (.pair (.fl .f32) (.fl .f32)))) .nil)) (a0, (a1, ()))) = some (F_laws_eqPlaceS_w (p_laws_eqPlaceS_w M a0 a1)) := 
  Eq.trans (b := (brT ((↑a0.length : Int) != (↑a1.length : Int)) (some (F_laws_eqPlaceS_w (false))) (brT ((c0_laws_eqPlaceS_w M a0 a1).isSome) (brT (isL ((c0_laws_eqPlaceS_w M a0 a1).getD (Sum.inl (false, ())))) (some (F_laws_eqPlaceS_w ((getL (false, ()) ((c0_laws_eqPlaceS_w M a0 a1).getD (Sum.inl (false, ())))).1))) (some (F_laws_eqPlaceS_w (true)))) none))) (by kernel_rfl)
    ((pushR (fun _ => rfl) (pushL (fun _ => (push2 rfl rfl)))) h)
theorem ok_laws_eqPlaceS_w : OkFn Try.prog 13 (S_laws_eqPlaceS_w R) :=
  okFn_of (good_cons ok_laws_eqPlace good_nil) follows Try.func13 rfl (by decide) (by decide) (lam_cons (i := 0) (cc := (loopsOf (Try.f13.body.getD .skip)).getD 0 .skip) (by kernel_rfl) lk_laws_eqPlaceS_w_0 lam_nil) (m := 2) (fun _ => rfl) (by decide) (fun _ _ h => nomatch h) (fun _ _ h => nomatch h) (fun x hx => ⟨40, e_laws_eqPlaceS_w R x.1 x.2.1 hx⟩)

end Go.Proofs.Ytggaemodkekeeaa
