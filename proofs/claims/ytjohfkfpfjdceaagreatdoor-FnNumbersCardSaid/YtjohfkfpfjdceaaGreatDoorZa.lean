/- Printed by gen2.py. -/
/- LogNumber of both texts, for every argument. -/
/- The contracts of sine and angle over this translation. -/
import Derived.Test.YtjohfkfpfjdceaaGreatDoorQb
import Derived.Test.YtjohfkfpfjdceaaGreatDoorYa
import Derived.Test.YtjohfkfpfjdceaaGreatDoorNc
import Derived.Test.YtjohfkfpfjdceaaGreatDoorQd
import Derived.Test.YtjohfkfpfjdceaaGreatDoorLo
import Derived.Test.YtjohfkfpfjdceaaGreatDoorGz

set_option linter.unusedVariables false
set_option linter.unusedSimpArgs false

-- GENERATED BELOW (gen.py)
namespace Go.Dv
open Go.Cv
noncomputable section
/-- impl.areFinite, loop 0: (.tv 5 true (.ls (.fl .f32))) (.tv 6 false (.int .i64)) (.tv 7 false (.int .i64)) (.tv 2 false .bool) -/
def st_impl_areFinite_w_0 (M : FOps) (v0 : (List Nat)) (v1 : Int) (v2 : Int) (v3 : Bool) : Option (((List Nat) × Int × Int × Bool × Unit) ⊕ ((Bool × Unit) ⊕ (Bool × Unit))) :=
  (brT (decide (v2 < v1)) (brT (decide (0 ≤ v2) && decide (v2 < (↑v0.length : Int))) (brT (!p_impl_IsFinite M (v0.getD v2.toNat 0)) (some (.inr (.inl (false, ())))) (some (.inl (v0, (v1, (IntKind.i64.wrap (v2 + 1), (v3, ()))))))) none) (some (.inr (.inr (v3, ())))))
def W_impl_areFinite_w_0 (M : FOps) : ((List Nat) × Int × Int × Bool × Unit) → Option ((Bool × Unit) ⊕ (Bool × Unit)) := runW (fun x => st_impl_areFinite_w_0 M x.1 x.2.1 x.2.2.1 x.2.2.2.1)
def L_impl_areFinite_w_0 (M : FOps) : LSpec := mkL (.cons (.tv 5 true (.ls (.fl .f32))) (.cons (.tv 6 false (.int .i64)) (.cons (.tv 7 false (.int .i64)) (.cons (.tv 2 false .bool) .nil)))) [(.ret, (.cons (.tv 2 false .bool) .nil)), ((.exit 0), (.cons (.tv 2 false .bool) .nil))] 0 0 (W_impl_areFinite_w_0 M)
def c0_impl_areFinite_w (M : FOps) (a0 : (List Nat)) : Option (Bool × Unit ⊕ Bool × Unit) := W_impl_areFinite_w_0 M (a0, (↑a0.length : Int), 0, false, ())
def F_impl_areFinite_w (r : Bool) : AS.Ty (.cons (.one .bool) .nil) × List CS := ((r, ()), [])
def p_impl_areFinite_w (M : FOps) (a0 : (List Nat)) : Bool :=
  (bif isL ((c0_impl_areFinite_w M a0).getD (Sum.inl (false, ()))) then (getL (false, ()) ((c0_impl_areFinite_w M a0).getD (Sum.inl (false, ())))).fst else true)
def r_impl_areFinite_w (M : FOps) (a0 : (List Nat)) : Bool :=
  (((c0_impl_areFinite_w M a0).isSome) && true)
def S_impl_areFinite_w (M : FOps) : FSpec := mkSpec (.cons (.one (.ls (.fl .f32))) .nil) (.cons (.one .bool) .nil) (fun x => r_impl_areFinite_w M x.1) (fun x => F_impl_areFinite_w (p_impl_areFinite_w M x.1))

end
end Go.Dv


namespace Go.Dv
open Go.Cv
open Ieee

theorem wid_infw {a : Nat} {s : Bool} (hr : FloatKind.f32.format.read a = .infinity s) : R.wid a = FloatKind.f64.format.write (.infinity s) := by
  have hn : isNan .f32 a = false := by unfold isNan; rw [hr]; rfl
  show (fconv .f32 a .f64).getD 0 = _
  unfold fconv floatToFloatBits FloatKind.decode FloatKind.encode
  rw [hn, hr]
  rfl

/-! ### courses -/
end Go.Dv


namespace Go.Proofs.YtjohfkfpfjdceaaGreatDoor
open Go Go.Cv Go.Dv

set_option maxRecDepth 100000 in
theorem e_impl_sine (M : FOps) (t : Nat) : cwp M Tryz.prog (envOf [(111, S_impl_fraction M)]) (lamOf []) 20 (Tryz.f81.body.getD .skip) 0 (retK Tryz.prog Tryz.f81.results.toList sigF 0) (initSt sigF (t, ())) = some (F_f64 (p_impl_sine M t)) :=
  Eq.trans (b := sineTree M (p_impl_fraction M t)) (by kernel_rfl) (sineTree_eq M _)

theorem ok_impl_sine : OkFn Tryz.prog 81 (S_impl_sine R) :=
  okFn_of (good_cons ok_impl_fraction good_nil) follows Tryz.func81 rfl (by decide) (by decide) lam_nil (m := 1) (fun _ => rfl) (by decide) (fun _ _ h => nomatch h) (fun _ _ h => nomatch h) (fun x _ => ⟨20, e_impl_sine R x.1⟩)

set_option maxRecDepth 100000 in
theorem e_impl_AngleTurns (M : FOps) (y x : Nat) (h : r_impl_AngleTurns M y x = true) : cwp M Tryz.prog (envOf [(78, S_impl_areFinite M), (79, S_math_NaN M), (77, un64 M.abs), (49, S_math_Sqrt M)]) (lamOf []) 20 (Tryz.f35.body.getD .skip) 0 (retK Tryz.prog Tryz.f35.results.toList sigF32 0) (initSt sigF32x2 (y, (x, ()))) = some (F_f32 (p_impl_AngleTurns M y x)) := by
  refine Eq.trans (b :=
    let rest := angTree M (M.abs (M.wid y)) (M.abs (M.wid x)) (M.cmp .lss .f32 x 0) (M.cmp .lss .f32 y 0) (fun g => brT (M.narOk g) (some (F_f32 (M.nar g))) none)
    brT (!(angFin M y x)) (brT (M.narOk (p_math_NaN M)) (some (F_f32 (M.nar (p_math_NaN M)))) none)
      (brT (M.cmp .eql .f32 x 0) (brT (M.cmp .eql .f32 y 0) (some (F_f32 0)) rest) rest)) (by kernel_rfl) ?_
  simp only [angTree_eq]
  unfold r_impl_AngleTurns at h
  unfold p_impl_AngleTurns
  have e : angTail M (M.abs (M.wid y)) (M.abs (M.wid x)) (M.cmp .lss .f32 x 0) (M.cmp .lss .f32 y 0) = p_impl_AngleWide M y x := rfl
  rw [e]
  cases h1 : angFin M y x
  · rw [h1] at h
    have h : M.narOk (p_math_NaN M) = true := h
    rw [h]; rfl
  · rw [h1] at h
    cases h2 : M.cmp .eql .f32 x 0
    · rw [h2] at h
      have h : M.narOk (p_impl_AngleWide M y x) = true := h
      rw [h]; rfl
    · rw [h2] at h
      cases h3 : M.cmp .eql .f32 y 0
      · rw [h3] at h
        have h : M.narOk (p_impl_AngleWide M y x) = true := h
        rw [h]; rfl
      · rfl

end Go.Proofs.YtjohfkfpfjdceaaGreatDoor


set_option linter.unusedVariables false
set_option linter.unusedSimpArgs false

-- GENERATED BELOW (gen.py)
namespace Go.Proofs.YtjohfkfpfjdceaaGreatDoor
open Go Go.Cv Go.Dv
set_option maxRecDepth 100000 in
theorem hs_impl_areFinite_w_0 (M : FOps) (v0 : (List Nat)) (v1 : Int) (v2 : Int) (v3 : Bool) : cwp M Tryz.prog (envOf [(67, S_impl_IsFinite M)]) (lamOf []) 40 ((loopsOf (Tryz.f78.body.getD .skip)).getD 0 .skip) 1 (stepK (.cons (.tv 5 true (.ls (.fl .f32))) (.cons (.tv 6 false (.int .i64)) (.cons (.tv 7 false (.int .i64)) (.cons (.tv 2 false .bool) .nil)))) [(.ret, (.cons (.tv 2 false .bool) .nil)), ((.exit 0), (.cons (.tv 2 false .bool) .nil))]) (canon (.cons (.tv 5 true (.ls (.fl .f32))) (.cons (.tv 6 false (.int .i64)) (.cons (.tv 7 false (.int .i64)) (.cons (.tv 2 false .bool) .nil)))) 0 0 (v0, (v1, (v2, (v3, ()))))) = st_impl_areFinite_w_0 M v0 v1 v2 v3 := by
  unfold st_impl_areFinite_w_0
  kernel_rfl
set_option maxRecDepth 100000 in
theorem lk_impl_areFinite_w_0 : LOk Tryz.prog Tryz.f78.ntmps ((loopsOf (Tryz.f78.body.getD .skip)).getD 0 .skip) (L_impl_areFinite_w_0 R) :=
  lok (F := 40) (Λ := lamOf []) (b := 1) (good_cons ok_impl_IsFinite good_nil) follows (by kernel_rfl) (fun _ _ _ _ h => nomatch h) (by decide) (by decide) (by decide) (fun x => hs_impl_areFinite_w_0 R x.1 x.2.1 x.2.2.1 x.2.2.2.1)
set_option maxRecDepth 100000 in
theorem e_impl_areFinite_w (M : FOps) (a0 : (List Nat)) (h : r_impl_areFinite_w M a0 = true) : cwp M Tryz.prog (envOf [(67, S_impl_IsFinite M)]) (lamOf [(0, L_impl_areFinite_w_0 M)]) 40 (Tryz.f78.body.getD .skip) 0 (retK Tryz.prog Tryz.f78.results.toList (.cons (.one .bool) .nil) 0) (initSt (.cons (.one (.ls (.fl .f32))) .nil) (a0, ())) = some (F_impl_areFinite_w (p_impl_areFinite_w M a0)) := 
  Eq.trans (b := (brT ((c0_impl_areFinite_w M a0).isSome) (brT (isL ((c0_impl_areFinite_w M a0).getD (Sum.inl (false, ())))) (some (F_impl_areFinite_w ((getL (false, ()) ((c0_impl_areFinite_w M a0).getD (Sum.inl (false, ())))).fst))) (some (F_impl_areFinite_w (true)))) none)) (by kernel_rfl)
    ((pushL (fun _ => (push2 rfl rfl))) h)
theorem ok_impl_areFinite_w : OkFn Tryz.prog 78 (S_impl_areFinite_w R) :=
  okFn_of (good_cons ok_impl_IsFinite good_nil) follows Tryz.func78 rfl (by decide) (by decide) (lam_cons (i := 0) (cc := (loopsOf (Tryz.f78.body.getD .skip)).getD 0 .skip) (by kernel_rfl) lk_impl_areFinite_w_0 lam_nil) (m := 1) (fun _ => rfl) (by decide) (fun _ _ h => nomatch h) (fun _ _ h => nomatch h) (fun x hx => ⟨40, e_impl_areFinite_w R x.1 hx⟩)

end Go.Proofs.YtjohfkfpfjdceaaGreatDoor
