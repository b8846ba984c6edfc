/- Printed by gen2.py. -/
import Derived.Test.YtgfplcpjnlignaaDoorZke
import Derived.Test.YtgfplcpjnlignaaDoorYa

set_option linter.unusedVariables false
set_option linter.unusedSimpArgs false

-- GENERATED BELOW (gen.py)
namespace Go.Dv
open Go.Cv
noncomputable section
def F_impl_areValid_1 (r : Bool) : AS.Ty (.cons (.one .bool) .nil) × List CS := ((r, ()), [])
def p_impl_areValid_1 (M : FOps) (a0_0 : Nat) (a0_1 : Nat) : Bool :=
  !p_impl_ValidPlace M a0_0 a0_1
def S_impl_areValid_1 (M : FOps) : FSpec := mkSpec (.cons (.agg (.pair (.fl .f32) (.fl .f32))) .nil) (.cons (.one .bool) .nil) (fun _ => true) (fun x => F_impl_areValid_1 (p_impl_areValid_1 M x.1.1 x.1.2))

/-- slices.IndexFunc[[]impl.Place,impl.Place], loop 0: (.tv 0 true (.ls (.pair (.fl .f32) (.fl .f32)))) (.tf 1 87) (.tv 7 false (.int .i64)) (.tv 8 false (.int .i64)) (.tv 4 false (.int .i64)) -/
def st_slices_IndexFunc_impl_Place_impl_Place_0 (M : FOps) (v0 : (List (Nat × Nat))) (v1 : Int) (v2 : Int) (v3 : Int) : Option (((List (Nat × Nat)) × Unit × Int × Int × Int × Unit) ⊕ ((Int × Unit) ⊕ (Int × Unit))) :=
  (brT (decide (v2 < v1)) (brT (decide (0 ≤ v2) && decide (v2 < (↑v0.length : Int))) (brT (p_impl_areValid_1 M (v0.getD v2.toNat (0, 0)).fst (v0.getD v2.toNat (0, 0)).snd) (some (.inr (.inl (v2, ())))) (some (.inl (v0, ((), (v1, (IntKind.i64.wrap (v2 + 1), (v3, ())))))))) none) (some (.inr (.inr (v3, ())))))
def W_slices_IndexFunc_impl_Place_impl_Place_0 (M : FOps) : ((List (Nat × Nat)) × Unit × Int × Int × Int × Unit) → Option ((Int × Unit) ⊕ (Int × Unit)) := runW (fun x => st_slices_IndexFunc_impl_Place_impl_Place_0 M x.1 x.2.2.1 x.2.2.2.1 x.2.2.2.2.1)
def L_slices_IndexFunc_impl_Place_impl_Place_0 (M : FOps) : LSpec := mkL (.cons (.tv 0 true (.ls (.pair (.fl .f32) (.fl .f32)))) (.cons (.tf 1 87) (.cons (.tv 7 false (.int .i64)) (.cons (.tv 8 false (.int .i64)) (.cons (.tv 4 false (.int .i64)) .nil))))) [(.ret, (.cons (.tv 4 false (.int .i64)) .nil)), ((.exit 0), (.cons (.tv 4 false (.int .i64)) .nil))] 0 0 (W_slices_IndexFunc_impl_Place_impl_Place_0 M)
def c0_slices_IndexFunc_impl_Place_impl_Place (M : FOps) (a0 : (List (Nat × Nat))) : Option (Int × Unit ⊕ Int × Unit) := W_slices_IndexFunc_impl_Place_impl_Place_0 M (a0, (), (↑a0.length : Int), 0, 0, ())
def F_slices_IndexFunc_impl_Place_impl_Place (r : Int) : AS.Ty (.cons (.one (.int .i64)) .nil) × List CS := ((r, ()), [])
def p_slices_IndexFunc_impl_Place_impl_Place (M : FOps) (a0 : (List (Nat × Nat))) : Int :=
  (bif isL ((c0_slices_IndexFunc_impl_Place_impl_Place M a0).getD (Sum.inl (0, ()))) then (getL (0, ()) ((c0_slices_IndexFunc_impl_Place_impl_Place M a0).getD (Sum.inl (0, ())))).fst else Int.negSucc 0)
def r_slices_IndexFunc_impl_Place_impl_Place (M : FOps) (a0 : (List (Nat × Nat))) : Bool :=
  (((c0_slices_IndexFunc_impl_Place_impl_Place M a0).isSome) && true)
def S_slices_IndexFunc_impl_Place_impl_Place (M : FOps) : FSpec := mkSpec (.cons (.one (.ls (.pair (.fl .f32) (.fl .f32)))) (.cons (.fn 87 .nil) .nil)) (.cons (.one (.int .i64)) .nil) (fun x => r_slices_IndexFunc_impl_Place_impl_Place M x.1) (fun x => F_slices_IndexFunc_impl_Place_impl_Place (p_slices_IndexFunc_impl_Place_impl_Place M x.1))

def c0_slices_ContainsFunc_impl_Place_impl_Place (M : FOps) (a0 : (List (Nat × Nat))) : Int := p_slices_IndexFunc_impl_Place_impl_Place M a0
def F_slices_ContainsFunc_impl_Place_impl_Place (r : Bool) : AS.Ty (.cons (.one .bool) .nil) × List CS := ((r, ()), [])
def p_slices_ContainsFunc_impl_Place_impl_Place (M : FOps) (a0 : (List (Nat × Nat))) : Bool :=
  decide ((c0_slices_ContainsFunc_impl_Place_impl_Place M a0) ≥ 0)
def r_slices_ContainsFunc_impl_Place_impl_Place (M : FOps) (a0 : (List (Nat × Nat))) : Bool :=
  ((r_slices_IndexFunc_impl_Place_impl_Place M a0) && true)
def S_slices_ContainsFunc_impl_Place_impl_Place (M : FOps) : FSpec := mkSpec (.cons (.one (.ls (.pair (.fl .f32) (.fl .f32)))) (.cons (.fn 87 .nil) .nil)) (.cons (.one .bool) .nil) (fun x => r_slices_ContainsFunc_impl_Place_impl_Place M x.1) (fun x => F_slices_ContainsFunc_impl_Place_impl_Place (p_slices_ContainsFunc_impl_Place_impl_Place M x.1))

def F_impl_areValid_w (r : Bool) : AS.Ty (.cons (.one .bool) .nil) × List CS := ((r, ()), [])
def p_impl_areValid_w (M : FOps) (a0 : (List (Nat × Nat))) : Bool :=
  !p_slices_ContainsFunc_impl_Place_impl_Place M a0
def r_impl_areValid_w (M : FOps) (a0 : (List (Nat × Nat))) : Bool :=
  ((r_slices_ContainsFunc_impl_Place_impl_Place M a0) && true)
def S_impl_areValid_w (M : FOps) : FSpec := mkSpec (.cons (.one (.ls (.pair (.fl .f32) (.fl .f32)))) .nil) (.cons (.one .bool) .nil) (fun x => r_impl_areValid_w M x.1) (fun x => F_impl_areValid_w (p_impl_areValid_w M x.1))

def F_impl_length_impl_Place (r : Int) : AS.Ty (.cons (.one (.int .i64)) .nil) × List CS := ((r, ()), [])
def p_impl_length_impl_Place (M : FOps) (a0 : (List (Nat × Nat))) : Int :=
  (↑a0.length : Int)
def S_impl_length_impl_Place (M : FOps) : FSpec := mkSpec (.cons (.one (.ls (.pair (.fl .f32) (.fl .f32)))) .nil) (.cons (.one (.int .i64)) .nil) (fun _ => true) (fun x => F_impl_length_impl_Place (p_impl_length_impl_Place M x.1))

end
end Go.Dv


set_option linter.unusedVariables false
set_option linter.unusedSimpArgs false

-- GENERATED BELOW (gen.py)
namespace Go.Proofs.YtgfplcpjnlignaaDoor
open Go Go.Cv Go.Dv
set_option maxRecDepth 100000 in
theorem e_impl_areValid_1 (M : FOps) (a0_0 : Nat) (a0_1 : Nat) : cwp M Tryd.prog (envOf [(36, S_impl_ValidPlace M)]) (lamOf []) 40 (Tryd.f87.body.getD .skip) 0 (retK Tryd.prog Tryd.f87.results.toList (.cons (.one .bool) .nil) 0) (initSt (.cons (.agg (.pair (.fl .f32) (.fl .f32))) .nil) ((a0_0, a0_1), ())) = some (F_impl_areValid_1 (p_impl_areValid_1 M a0_0 a0_1)) := by kernel_rfl
theorem ok_impl_areValid_1 : OkFn Tryd.prog 87 (S_impl_areValid_1 R) :=
  okFn_of (good_cons ok_impl_ValidPlace good_nil) follows Tryd.func87 rfl (by decide) (by decide) lam_nil (m := 1) (fun _ => rfl) (by decide) (fun _ _ h => nomatch h) (fun _ _ h => nomatch h) (fun x _ => ⟨40, e_impl_areValid_1 R x.1.1 x.1.2⟩)

set_option maxRecDepth 100000 in
theorem hs_slices_IndexFunc_impl_Place_impl_Place_0 (M : FOps) (v0 : (List (Nat × Nat))) (v1 : Int) (v2 : Int) (v3 : Int) : cwp M Tryd.prog (envOf [(87, S_impl_areValid_1 M)]) (lamOf []) 40 ((loopsOf (Tryd.f88.body.getD .skip)).getD 0 .skip) 1 (stepK (.cons (.tv 0 true (.ls (.pair (.fl .f32) (.fl .f32)))) (.cons (.tf 1 87) (.cons (.tv 7 false (.int .i64)) (.cons (.tv 8 false (.int .i64)) (.cons (.tv 4 false (.int .i64)) .nil))))) [(.ret, (.cons (.tv 4 false (.int .i64)) .nil)), ((.exit 0), (.cons (.tv 4 false (.int .i64)) .nil))]) (canon (.cons (.tv 0 true (.ls (.pair (.fl .f32) (.fl .f32)))) (.cons (.tf 1 87) (.cons (.tv 7 false (.int .i64)) (.cons (.tv 8 false (.int .i64)) (.cons (.tv 4 false (.int .i64)) .nil))))) 0 0 (v0, ((), (v1, (v2, (v3, ())))))) = st_slices_IndexFunc_impl_Place_impl_Place_0 M v0 v1 v2 v3 := by
  unfold st_slices_IndexFunc_impl_Place_impl_Place_0
  kernel_rfl
set_option maxRecDepth 100000 in
theorem lk_slices_IndexFunc_impl_Place_impl_Place_0 : LOk Tryd.prog Tryd.f88.ntmps ((loopsOf (Tryd.f88.body.getD .skip)).getD 0 .skip) (L_slices_IndexFunc_impl_Place_impl_Place_0 R) :=
  lok (F := 40) (Λ := lamOf []) (b := 1) (good_cons ok_impl_areValid_1 good_nil) follows (by kernel_rfl) (fun _ _ _ _ h => nomatch h) (by decide) (by decide) (by decide) (fun x => hs_slices_IndexFunc_impl_Place_impl_Place_0 R x.1 x.2.2.1 x.2.2.2.1 x.2.2.2.2.1)
set_option maxRecDepth 100000 in
theorem e_slices_IndexFunc_impl_Place_impl_Place (M : FOps) (a0 : (List (Nat × Nat))) (h : r_slices_IndexFunc_impl_Place_impl_Place M a0 = true) : cwp M Tryd.prog (envOf [(87, S_impl_areValid_1 M)]) (lamOf [(0, L_slices_IndexFunc_impl_Place_impl_Place_0 M)]) 40 (Tryd.f88.body.getD .skip) 0 (retK Tryd.prog Tryd.f88.results.toList (.cons (.one (.int .i64)) .nil) 0) (initSt (.cons (.one (.ls (.pair (.fl .f32) (.fl .f32)))) (.cons (.fn 87 .nil) .nil)) (a0, ((), ()))) = some (F_slices_IndexFunc_impl_Place_impl_Place (p_slices_IndexFunc_impl_Place_impl_Place M a0)) := 
  Eq.trans (b := (brT ((c0_slices_IndexFunc_impl_Place_impl_Place M a0).isSome) (brT (isL ((c0_slices_IndexFunc_impl_Place_impl_Place M a0).getD (Sum.inl (0, ())))) (some (F_slices_IndexFunc_impl_Place_impl_Place ((getL (0, ()) ((c0_slices_IndexFunc_impl_Place_impl_Place M a0).getD (Sum.inl (0, ())))).fst))) (some (F_slices_IndexFunc_impl_Place_impl_Place (Int.negSucc 0)))) none)) (by kernel_rfl)
    ((pushL (fun _ => (push2 rfl rfl))) h)
theorem ok_slices_IndexFunc_impl_Place_impl_Place : OkFn Tryd.prog 88 (S_slices_IndexFunc_impl_Place_impl_Place R) :=
  okFn_of (good_cons ok_impl_areValid_1 good_nil) follows Tryd.func88 rfl (by decide) (by decide) (lam_cons (i := 0) (cc := (loopsOf (Tryd.f88.body.getD .skip)).getD 0 .skip) (by kernel_rfl) lk_slices_IndexFunc_impl_Place_impl_Place_0 lam_nil) (m := 2) (fun _ => rfl) (by decide) (fun _ _ h => nomatch h) (fun _ _ h => nomatch h) (fun x hx => ⟨40, e_slices_IndexFunc_impl_Place_impl_Place R x.1 hx⟩)

set_option maxRecDepth 100000 in
theorem e_slices_ContainsFunc_impl_Place_impl_Place (M : FOps) (a0 : (List (Nat × Nat))) (h : r_slices_ContainsFunc_impl_Place_impl_Place M a0 = true) : cwp M Tryd.prog (envOf [(87, S_impl_areValid_1 M), (88, S_slices_IndexFunc_impl_Place_impl_Place M)]) (lamOf []) 40 (Tryd.f78.body.getD .skip) 0 (retK Tryd.prog Tryd.f78.results.toList (.cons (.one .bool) .nil) 0) (initSt (.cons (.one (.ls (.pair (.fl .f32) (.fl .f32)))) (.cons (.fn 87 .nil) .nil)) (a0, ((), ()))) = some (F_slices_ContainsFunc_impl_Place_impl_Place (p_slices_ContainsFunc_impl_Place_impl_Place M a0)) := 
  Eq.trans (b := (brT (r_slices_IndexFunc_impl_Place_impl_Place M a0) (some (F_slices_ContainsFunc_impl_Place_impl_Place (decide ((c0_slices_ContainsFunc_impl_Place_impl_Place M a0) ≥ 0)))) none)) (by kernel_rfl)
    ((pushL (fun _ => rfl)) h)
theorem ok_slices_ContainsFunc_impl_Place_impl_Place : OkFn Tryd.prog 78 (S_slices_ContainsFunc_impl_Place_impl_Place R) :=
  okFn_of (good_cons ok_impl_areValid_1 (good_cons ok_slices_IndexFunc_impl_Place_impl_Place good_nil)) follows Tryd.func78 rfl (by decide) (by decide) lam_nil (m := 2) (fun _ => rfl) (by decide) (fun _ _ h => nomatch h) (fun _ _ h => nomatch h) (fun x hx => ⟨40, e_slices_ContainsFunc_impl_Place_impl_Place R x.1 hx⟩)

set_option maxRecDepth 100000 in
theorem e_impl_areValid_w (M : FOps) (a0 : (List (Nat × Nat))) (h : r_impl_areValid_w M a0 = true) : cwp M Tryd.prog (envOf [(78, S_slices_ContainsFunc_impl_Place_impl_Place M), (87, S_impl_areValid_1 M)]) (lamOf []) 40 (Tryd.f77.body.getD .skip) 0 (retK Tryd.prog Tryd.f77.results.toList (.cons (.one .bool) .nil) 0) (initSt (.cons (.one (.ls (.pair (.fl .f32) (.fl .f32)))) .nil) (a0, ())) = some (F_impl_areValid_w (p_impl_areValid_w M a0)) := 
  Eq.trans (b := (brT (r_slices_ContainsFunc_impl_Place_impl_Place M a0) (some (F_impl_areValid_w (!p_slices_ContainsFunc_impl_Place_impl_Place M a0))) none)) (by kernel_rfl)
    ((pushL (fun _ => rfl)) h)
theorem ok_impl_areValid_w : OkFn Tryd.prog 77 (S_impl_areValid_w R) :=
  okFn_of (good_cons ok_slices_ContainsFunc_impl_Place_impl_Place (good_cons ok_impl_areValid_1 good_nil)) follows Tryd.func77 rfl (by decide) (by decide) lam_nil (m := 1) (fun _ => rfl) (by decide) (fun _ _ h => nomatch h) (fun _ _ h => nomatch h) (fun x hx => ⟨40, e_impl_areValid_w R x.1 hx⟩)

set_option maxRecDepth 100000 in
theorem e_impl_length_impl_Place (M : FOps) (a0 : (List (Nat × Nat))) : cwp M Tryd.prog (envOf []) (lamOf []) 40 (Tryd.f76.body.getD .skip) 0 (retK Tryd.prog Tryd.f76.results.toList (.cons (.one (.int .i64)) .nil) 0) (initSt (.cons (.one (.ls (.pair (.fl .f32) (.fl .f32)))) .nil) (a0, ())) = some (F_impl_length_impl_Place (p_impl_length_impl_Place M a0)) := by kernel_rfl
theorem ok_impl_length_impl_Place : OkFn Tryd.prog 76 (S_impl_length_impl_Place R) :=
  okFn_of good_nil follows Tryd.func76 rfl (by decide) (by decide) lam_nil (m := 1) (fun _ => rfl) (by decide) (fun _ _ h => nomatch h) (fun _ _ h => nomatch h) (fun x _ => ⟨40, e_impl_length_impl_Place R x.1⟩)

end Go.Proofs.YtgfplcpjnlignaaDoor
