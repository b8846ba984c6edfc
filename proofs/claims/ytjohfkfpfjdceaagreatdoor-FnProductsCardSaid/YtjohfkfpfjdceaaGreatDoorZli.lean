/- Printed by gen2.py (moved out of Wkh). -/
/- Functions that are handed an array for good and give it back, longer. -/
/- The plain law of stored tracks: numbers in as many bytes as they take; check numbers; texts of bytes. -/
/- Printed by gen2.py (moved out of Zkh). -/
import Derived.Test.YtjohfkfpfjdceaaGreatDoorZkb
import Derived.Test.YtjohfkfpfjdceaaGreatDoorLha
import Derived.Test.YtjohfkfpfjdceaaGreatDoorDr
import Derived.Test.YtjohfkfpfjdceaaGreatDoorWkb
import Derived.Test.YtjohfkfpfjdceaaGreatDoorGa
import Derived.Test.YtjohfkfpfjdceaaGreatDoorLq
import Derived.Test.YtjohfkfpfjdceaaGreatDoorWkm
import Derived.Test.YtjohfkfpfjdceaaGreatDoorGz
import Derived.Test.YtjohfkfpfjdceaaGreatDoorDs

set_option linter.unusedVariables false
set_option linter.unusedSimpArgs false

-- GENERATED BELOW (gen.py)
namespace Go.Dv
open Go.Cv
noncomputable section
def F_spec_l01Same (r : Bool) : AS.Ty (.cons (.one .bool) .nil) × List CS := ((r, ()), [])
def p_spec_l01Same (M : FOps) (a0 : Nat) (a1 : Nat) : Bool :=
  p_spec_l01Bits M a0 == p_spec_l01Bits M a1
def r_spec_l01Same (M : FOps) (a0 : Nat) (a1 : Nat) : Bool :=
  ((r_spec_l01Bits M a0) && ((r_spec_l01Bits M a1) && true))
def S_spec_l01Same (M : FOps) : FSpec := mkSpec (.cons (.one (.fl .f32)) (.cons (.one (.fl .f32)) .nil)) (.cons (.one .bool) .nil) (fun x => r_spec_l01Same M x.1 x.2.1) (fun x => F_spec_l01Same (p_spec_l01Same M x.1 x.2.1))

def F_impl_SameNumber (r : Bool) : AS.Ty (.cons (.one .bool) .nil) × List CS := ((r, ()), [])
def p_impl_SameNumber (M : FOps) (a0 : Nat) (a1 : Nat) : Bool :=
  p_impl_BitsOf M a0 == p_impl_BitsOf M a1
def r_impl_SameNumber (M : FOps) (a0 : Nat) (a1 : Nat) : Bool :=
  ((r_impl_BitsOf M a0) && ((r_impl_BitsOf M a1) && true))
def S_impl_SameNumber (M : FOps) : FSpec := mkSpec (.cons (.one (.fl .f32)) (.cons (.one (.fl .f32)) .nil)) (.cons (.one .bool) .nil) (fun x => r_impl_SameNumber M x.1 x.2.1) (fun x => F_impl_SameNumber (p_impl_SameNumber M x.1 x.2.1))

end
end Go.Dv


namespace Go.Dv
open Go.RowKit Go.Cv

variable {P : Program} {Γ : CEnv}

/-- a contract that says nothing holds of whatever function -/
theorem ok_noSpec {P : Program} {f : FuncId} : OkFn P f noSpec := fun _ _ _ h => nomatch h
end Go.Dv


set_option linter.unusedSimpArgs false
namespace Go.Dv
open Go.Cv

/-! ### numbers in bytes -/
theorem wrap8 (i : Int) : IntKind.u8.wrap i = i % 256 := by
  unfold IntKind.wrap
  have e1 : (IntKind.u8.bits) = 8 := rfl
  simp [IntKind.signed, e1]
theorem wrapu {i : Int} (h0 : 0 ≤ i) (h1 : i < 9223372036854775808) : IntKind.u64.wrap i = i := by rw [IntKind.wrap_u64]; omega
theorem ble_of {a b : Nat} (h : a ≤ b) : Nat.ble a b = true := Nat.ble_eq_true_of_le h

/-! ### places in bytes -/
/-! ### check numbers -/
/-! ### texts of bytes -/
end Go.Dv


set_option linter.unusedVariables false
set_option linter.unusedSimpArgs false

-- GENERATED BELOW (gen.py)
namespace Go.Proofs.YtjohfkfpfjdceaaGreatDoor
open Go Go.Cv Go.Dv
set_option maxRecDepth 100000 in
theorem e_spec_l01Same (M : FOps) (a0 : Nat) (a1 : Nat) (h : r_spec_l01Same M a0 a1 = true) : cwp M Tryz.prog (envOf [(98, S_spec_l01Bits M)]) (lamOf []) 40 (Tryz.f48.body.getD .skip) 0 (retK Tryz.prog Tryz.f48.results.toList (.cons (.one .bool) .nil) 0) (initSt (.cons (.one (.fl .f32)) (.cons (.one (.fl .f32)) .nil)) (a0, (a1, ()))) = some (F_spec_l01Same (p_spec_l01Same M a0 a1)) := 
  Eq.trans (b := (brT (r_spec_l01Bits M a0) (brT (r_spec_l01Bits M a1) (some (F_spec_l01Same (p_spec_l01Bits M a0 == p_spec_l01Bits M a1))) none) none)) (by kernel_rfl)
    ((pushL (pushL (fun _ => rfl))) h)
theorem ok_spec_l01Same : OkFn Tryz.prog 48 (S_spec_l01Same R) :=
  okFn_of (good_cons ok_spec_l01Bits good_nil) follows Tryz.func48 rfl (by decide) (by decide) lam_nil (m := 2) (fun _ => rfl) (by decide) (fun _ _ h => nomatch h) (fun _ _ h => nomatch h) (fun x hx => ⟨40, e_spec_l01Same R x.1 x.2.1 hx⟩)

set_option maxRecDepth 100000 in
theorem e_impl_SameNumber (M : FOps) (a0 : Nat) (a1 : Nat) (h : r_impl_SameNumber M a0 a1 = true) : cwp M Tryz.prog (envOf [(22, S_impl_BitsOf M)]) (lamOf []) 40 (Tryz.f66.body.getD .skip) 0 (retK Tryz.prog Tryz.f66.results.toList (.cons (.one .bool) .nil) 0) (initSt (.cons (.one (.fl .f32)) (.cons (.one (.fl .f32)) .nil)) (a0, (a1, ()))) = some (F_impl_SameNumber (p_impl_SameNumber M a0 a1)) := 
  Eq.trans (b := (brT (r_impl_BitsOf M a0) (brT (r_impl_BitsOf M a1) (some (F_impl_SameNumber (p_impl_BitsOf M a0 == p_impl_BitsOf M a1))) none) none)) (by kernel_rfl)
    ((pushL (pushL (fun _ => rfl))) h)
theorem ok_impl_SameNumber : OkFn Tryz.prog 66 (S_impl_SameNumber R) :=
  okFn_of (good_cons ok_impl_BitsOf good_nil) follows Tryz.func66 rfl (by decide) (by decide) lam_nil (m := 2) (fun _ => rfl) (by decide) (fun _ _ h => nomatch h) (fun _ _ h => nomatch h) (fun x hx => ⟨40, e_impl_SameNumber R x.1 x.2.1 hx⟩)

end Go.Proofs.YtjohfkfpfjdceaaGreatDoor
