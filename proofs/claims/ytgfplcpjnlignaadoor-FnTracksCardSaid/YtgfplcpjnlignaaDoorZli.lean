/- Printed by gen2.py. -/
/- Places' lists, by other words. -/
/- Printed by gen2.py (moved out of Wkh). -/
/- Printed by gen2.py (moved out of Zkh). -/
import Derived.Test.YtgfplcpjnlignaaDoorLha
import Derived.Test.YtgfplcpjnlignaaDoorZke
import Derived.Test.YtgfplcpjnlignaaDoorZa
import Derived.Test.YtgfplcpjnlignaaDoorYa
import Derived.Test.YtgfplcpjnlignaaDoorFz
import Derived.Test.YtgfplcpjnlignaaDoorDu

set_option linter.unusedVariables false
set_option linter.unusedSimpArgs false

-- GENERATED BELOW (gen.py)
namespace Go.Proofs.YtgfplcpjnlignaaDoor
open Go Go.Cv Go.Dv
set_option maxRecDepth 100000 in
theorem e_impl_ArePlaces_w (M : FOps) (a0 : (List (Nat × Nat))) (h : r_impl_ArePlaces_w M a0 = true) : cwp M Tryd.prog (envOf [(77, S_impl_areValid M), (41, S_impl_within M), (76, S_impl_length_impl_Place M)]) (lamOf []) 40 (Tryd.f56.body.getD .skip) 0 (retK Tryd.prog Tryd.f56.results.toList (.cons (.one .bool) .nil) 0) (initSt (.cons (.one (.ls (.pair (.fl .f32) (.fl .f32)))) .nil) (a0, ())) = some (F_impl_ArePlaces_w (p_impl_ArePlaces_w M a0)) := 
  Eq.trans (b := (brT (p_impl_within M (p_impl_length_impl_Place M a0) 1 64) (brT (decide (a0.length < 4611686018427387904)) (some (F_impl_ArePlaces_w (a0.all fun x => p_impl_ValidPlace M x.fst x.snd))) none) (some (F_impl_ArePlaces_w (false))))) (by kernel_rfl)
    ((pushR (pushL (fun _ => rfl)) (fun _ => rfl)) h)
theorem ok_impl_ArePlaces_w : OkFn Tryd.prog 56 (S_impl_ArePlaces_w R) :=
  okFn_of (good_cons ok_impl_areValid (good_cons ok_impl_within (good_cons ok_impl_length_impl_Place good_nil))) follows Tryd.func56 rfl (by decide) (by decide) lam_nil (m := 1) (fun _ => rfl) (by decide) (fun _ _ h => nomatch h) (fun _ _ h => nomatch h) (fun x hx => ⟨40, e_impl_ArePlaces_w R x.1 hx⟩)

end Go.Proofs.YtgfplcpjnlignaaDoor


namespace Go.Proofs.YtgfplcpjnlignaaDoor
open Go Go.Cv Go.Dv

theorem arePlaces_words (l : List (Nat × Nat)) (hl : l.length < 2 ^ 62) : r_impl_ArePlaces_w R l = true ∧ p_impl_ArePlaces_w R l = placesB R l := by
  unfold r_impl_ArePlaces_w p_impl_ArePlaces_w placesB
  have a1 : decide ((l.length : Int) ≥ 1) = decide (1 ≤ l.length) := decide_eq_decide.2 (by omega)
  have a2 : decide ((l.length : Int) ≤ 64) = decide (l.length ≤ 64) := decide_eq_decide.2 (by omega)
  have a3 : decide (l.length < 4611686018427387904) = true := by simpa using hl
  have e : p_impl_within R (p_impl_length_impl_Place R l) 1 64 = (decide (1 ≤ l.length) && decide (l.length ≤ 64)) := by
    rw [← a1, ← a2]
    unfold p_impl_within p_impl_length_impl_Place
    cases decide ((l.length : Int) ≥ 1) <;> cases decide ((l.length : Int) ≤ 64) <;> rfl
  rw [e, a3]
  show _ ∧ (bif _ then validsB R l else false) = _
  cases (decide (1 ≤ l.length) && decide (l.length ≤ 64)) <;> cases validsB R l <;> exact ⟨rfl, rfl⟩
theorem ok_impl_ArePlaces : OkFn Tryd.prog 56 (S_impl_ArePlaces R) := ok_words ok_impl_ArePlaces_w fun x hx => by
  obtain ⟨h1, h2⟩ := arePlaces_words x.1 (by simpa using hx)
  exact ⟨h1, by unfold F_impl_ArePlaces_w; rw [h2]⟩
end Go.Proofs.YtgfplcpjnlignaaDoor


set_option linter.unusedVariables false
set_option linter.unusedSimpArgs false

-- GENERATED BELOW (gen.py)
namespace Go.Proofs.YtgfplcpjnlignaaDoor
open Go Go.Cv Go.Dv
set_option maxRecDepth 100000 in
theorem e_impl_BitsOf (M : FOps) (a0 : Nat) (h : r_impl_BitsOf M a0 = true) : cwp M Tryd.prog (envOf [(89, S_math_Float32bits M)]) (lamOf []) 40 (Tryd.f80.body.getD .skip) 0 (retK Tryd.prog Tryd.f80.results.toList (.cons (.one (.int .i64)) .nil) 0) (initSt (.cons (.one (.fl .f32)) .nil) (a0, ())) = some (F_impl_BitsOf (p_impl_BitsOf M a0)) := 
  Eq.trans (b := (brT (M.cmp BinOp.neq FloatKind.f32 a0 a0) (some (F_impl_BitsOf (2143289344))) (brT (M.cmp BinOp.eql FloatKind.f32 a0 a0) (some (F_impl_BitsOf (IntKind.i64.wrap (p_math_Float32bits M a0)))) none))) (by kernel_rfl)
    ((pushR (fun _ => rfl) (pushL (fun _ => rfl))) h)
theorem ok_impl_BitsOf : OkFn Tryd.prog 80 (S_impl_BitsOf R) :=
  okFn_of (good_cons ok_math_Float32bits good_nil) follows Tryd.func80 rfl (by decide) (by decide) lam_nil (m := 1) (fun _ => rfl) (by decide) (fun _ _ h => nomatch h) (fun _ _ h => nomatch h) (fun x hx => ⟨40, e_impl_BitsOf R x.1 hx⟩)

end Go.Proofs.YtgfplcpjnlignaaDoor


set_option linter.unusedVariables false
set_option linter.unusedSimpArgs false

-- GENERATED BELOW (gen.py)
namespace Go.Dv
open Go.Cv
noncomputable section
def F_spec_l00In (r : Bool) : AS.Ty (.cons (.one .bool) .nil) × List CS := ((r, ()), [])
def p_spec_l00In (M : FOps) (a0 : Int) (a1 : Int) (a2 : Int) : Bool :=
  (bif decide (a0 ≥ a1) then decide (a0 ≤ a2) else false)
def S_spec_l00In (M : FOps) : FSpec := mkSpec (.cons (.one (.int .i64)) (.cons (.one (.int .i64)) (.cons (.one (.int .i64)) .nil))) (.cons (.one .bool) .nil) (fun _ => true) (fun x => F_spec_l00In (p_spec_l00In M x.1 x.2.1 x.2.2.1))

end
end Go.Dv


set_option linter.unusedVariables false
set_option linter.unusedSimpArgs false

-- GENERATED BELOW (gen.py)
namespace Go.Proofs.YtgfplcpjnlignaaDoor
open Go Go.Cv Go.Dv
set_option maxRecDepth 100000 in
theorem e_spec_l00In (M : FOps) (a0 : Int) (a1 : Int) (a2 : Int) : cwp M Tryd.prog (envOf []) (lamOf []) 40 (Tryd.f46.body.getD .skip) 0 (retK Tryd.prog Tryd.f46.results.toList (.cons (.one .bool) .nil) 0) (initSt (.cons (.one (.int .i64)) (.cons (.one (.int .i64)) (.cons (.one (.int .i64)) .nil))) (a0, (a1, (a2, ())))) = some (F_spec_l00In (p_spec_l00In M a0 a1 a2)) := 
  Eq.trans (b := (brT (decide (a0 ≥ a1)) (some (F_spec_l00In (decide (a0 ≤ a2)))) (some (F_spec_l00In (false))))) (by kernel_rfl)
    ((push2 rfl rfl))
theorem ok_spec_l00In : OkFn Tryd.prog 46 (S_spec_l00In R) :=
  okFn_of good_nil follows Tryd.func46 rfl (by decide) (by decide) lam_nil (m := 3) (fun _ => rfl) (by decide) (fun _ _ h => nomatch h) (fun _ _ h => nomatch h) (fun x _ => ⟨40, e_spec_l00In R x.1 x.2.1 x.2.2.1⟩)

end Go.Proofs.YtgfplcpjnlignaaDoor


set_option linter.unusedVariables false
set_option linter.unusedSimpArgs false

-- GENERATED BELOW (gen.py)
namespace Go.Dv
open Go.Cv
noncomputable section
def p_spec_l01Same (M : FOps) (a0 : Nat) (a1 : Nat) : Bool :=
  p_spec_l01Bits M a0 == p_spec_l01Bits M a1
def r_spec_l01Same (M : FOps) (a0 : Nat) (a1 : Nat) : Bool :=
  ((r_spec_l01Bits M a0) && ((r_spec_l01Bits M a1) && true))
def F_impl_SameNumber (r : Bool) : AS.Ty (.cons (.one .bool) .nil) × List CS := ((r, ()), [])
def p_impl_SameNumber (M : FOps) (a0 : Nat) (a1 : Nat) : Bool :=
  p_impl_BitsOf M a0 == p_impl_BitsOf M a1
def r_impl_SameNumber (M : FOps) (a0 : Nat) (a1 : Nat) : Bool :=
  ((r_impl_BitsOf M a0) && ((r_impl_BitsOf M a1) && true))
def S_impl_SameNumber (M : FOps) : FSpec := mkSpec (.cons (.one (.fl .f32)) (.cons (.one (.fl .f32)) .nil)) (.cons (.one .bool) .nil) (fun x => r_impl_SameNumber M x.1 x.2.1) (fun x => F_impl_SameNumber (p_impl_SameNumber M x.1 x.2.1))

end
end Go.Dv


set_option linter.unusedVariables false
set_option linter.unusedSimpArgs false

-- GENERATED BELOW (gen.py)
namespace Go.Proofs.YtgfplcpjnlignaaDoor
open Go Go.Cv Go.Dv
set_option maxRecDepth 100000 in
theorem e_impl_SameNumber (M : FOps) (a0 : Nat) (a1 : Nat) (h : r_impl_SameNumber M a0 a1 = true) : cwp M Tryd.prog (envOf [(80, S_impl_BitsOf M)]) (lamOf []) 40 (Tryd.f59.body.getD .skip) 0 (retK Tryd.prog Tryd.f59.results.toList (.cons (.one .bool) .nil) 0) (initSt (.cons (.one (.fl .f32)) (.cons (.one (.fl .f32)) .nil)) (a0, (a1, ()))) = some (F_impl_SameNumber (p_impl_SameNumber M a0 a1)) := 
  Eq.trans (b := (brT (r_impl_BitsOf M a0) (brT (r_impl_BitsOf M a1) (some (F_impl_SameNumber (p_impl_BitsOf M a0 == p_impl_BitsOf M a1))) none) none)) (by kernel_rfl)
    ((pushL (pushL (fun _ => rfl))) h)
theorem ok_impl_SameNumber : OkFn Tryd.prog 59 (S_impl_SameNumber R) :=
  okFn_of (good_cons ok_impl_BitsOf good_nil) follows Tryd.func59 rfl (by decide) (by decide) lam_nil (m := 2) (fun _ => rfl) (by decide) (fun _ _ h => nomatch h) (fun _ _ h => nomatch h) (fun x hx => ⟨40, e_impl_SameNumber R x.1 x.2.1 hx⟩)

end Go.Proofs.YtgfplcpjnlignaaDoor
