/- Lists of numbers and of places: what the loops tell in the end. -/
/- The contracts of sine and angle. -/
/- Printed by gen2.py. -/
import Derived.Test.YtjohfkfpfjdceaaGreatDoorZa
import Derived.Test.YtjohfkfpfjdceaaGreatDoorNc
import Derived.Test.YtjohfkfpfjdceaaGreatDoorLo

namespace Go.Dv
open Go.Cv

theorem areFinite_words (l : List Nat) (hl : l.length < 2 ^ 62) : r_impl_areFinite_w R l = true ∧ p_impl_areFinite_w R l = finsB R l := by
  have h := runW_scan (step := fun x => st_impl_areFinite_w_0 R x.1 x.2.1 x.2.2.1 x.2.2.2.1) (n := l.length) (test := fun i => p_impl_IsFinite R (l.getD i 0)) (mk := fun i => (l, (l.length : Int), (i : Int), false, ()))
    (oT := .inr (false, ())) (oF := fun _ => .inl (false, ()))
    (fun i hi => by
      simp only [st_impl_areFinite_w_0, Int.toNat_natCast]
      have h1 : decide ((i : Int) < (l.length : Int)) = true := by simpa using hi
      have h2 : decide (0 ≤ (i : Int)) = true := by simp
      rw [h1, h2, wrap_succ (by omega)]
      cases p_impl_IsFinite R (l.getD i 0) <;> rfl)
    (by simp only [st_impl_areFinite_w_0]; simp [brT])
  have e : c0_impl_areFinite_w R l = runW (fun x => st_impl_areFinite_w_0 R x.1 x.2.1 x.2.2.1 x.2.2.2.1) (l, (l.length : Int), ((0 : Nat) : Int), false, ()) := rfl
  unfold r_impl_areFinite_w p_impl_areFinite_w finsB
  rcases h with ⟨h1, h2⟩ | ⟨j, hj, h1, h2⟩
  · rw [e, h2]
    refine ⟨rfl, (all_iff.1 fun i hi => ?_).symm⟩
    have := h1 i hi
    rwa [getD_lt hi] at this
  · rw [e, h2]
    refine ⟨rfl, ?_⟩
    cases ha : l.all (fun x => p_impl_IsFinite R x)
    · rfl
    · have := all_iff.2 ha j hj
      rw [getD_lt hj] at h1
      rw [h1] at this; cases this

end Go.Dv
namespace Go.Proofs.YtjohfkfpfjdceaaGreatDoor
open Go Go.Cv Go.Dv

theorem ok_impl_areFinite : OkFn Tryz.prog 78 (S_impl_areFinite R) := ok_words ok_impl_areFinite_w fun x hx => by
  obtain ⟨h1, h2⟩ := areFinite_words x.1 (by simpa using hx)
  exact ⟨h1, by unfold F_impl_areFinite_w; rw [h2]⟩
end Go.Proofs.YtjohfkfpfjdceaaGreatDoor


namespace Go.Proofs.YtjohfkfpfjdceaaGreatDoor
open Go Go.Cv Go.Dv

theorem ok_impl_AngleTurns : OkFn Tryz.prog 35 (S_impl_AngleTurns R) :=
  okFn_of (good_cons ok_impl_areFinite (good_cons ok_math_NaN (good_cons ok_Abs (good_cons ok_math_Sqrt good_nil)))) follows Tryz.func35 rfl (by decide) (by decide) lam_nil (m := 2) (fun _ => rfl) (by decide) (fun _ _ h => nomatch h) (fun _ _ h => nomatch h)
    (fun x _ => ⟨20, e_impl_AngleTurns R x.1 x.2.1 (rr_impl_AngleTurns _ _)⟩)
end Go.Proofs.YtjohfkfpfjdceaaGreatDoor


set_option linter.unusedVariables false
set_option linter.unusedSimpArgs false

-- GENERATED BELOW (gen.py)
namespace Go.Proofs.YtjohfkfpfjdceaaGreatDoor
open Go Go.Cv Go.Dv
set_option maxRecDepth 100000 in
theorem e_impl_SineTurns (M : FOps) (a0 : Nat) (h : r_impl_SineTurns M a0 = true) : cwp M Tryz.prog (envOf [(80, S_impl_isFinite M), (79, S_math_NaN M), (77, un64 M.abs), (81, S_impl_sine M)]) (lamOf []) 40 (Tryz.f38.body.getD .skip) 0 (retK Tryz.prog Tryz.f38.results.toList (.cons (.one (.fl .f32)) .nil) 0) (initSt (.cons (.one (.fl .f32)) .nil) (a0, ())) = some (F_impl_SineTurns (p_impl_SineTurns M a0)) := 
  Eq.trans (b := (brT (!p_impl_isFinite M (c0_impl_SineTurns M a0)) (brT (M.narOk (c1_impl_SineTurns M a0)) (some (F_impl_SineTurns (M.nar (c1_impl_SineTurns M a0)))) none) (brT (M.cmp BinOp.geq FloatKind.f64 (M.abs (c0_impl_SineTurns M a0)) 4841369599423283200) (some (F_impl_SineTurns (0))) (brT (M.narOk (c2_impl_SineTurns M a0)) (some (F_impl_SineTurns (M.nar (c2_impl_SineTurns M a0)))) none)))) (by kernel_rfl)
    ((pushR (pushL (fun _ => rfl)) (pushR (fun _ => rfl) (pushL (fun _ => rfl)))) h)
theorem ok_impl_SineTurns : OkFn Tryz.prog 38 (S_impl_SineTurns R) :=
  okFn_of (good_cons ok_impl_isFinite (good_cons ok_math_NaN (good_cons ok_Abs (good_cons ok_impl_sine good_nil)))) follows Tryz.func38 rfl (by decide) (by decide) lam_nil (m := 1) (fun _ => rfl) (by decide) (fun _ _ h => nomatch h) (fun _ _ h => nomatch h) (fun x _ => ⟨40, e_impl_SineTurns R x.1 (rr_impl_SineTurns x.1)⟩)

end Go.Proofs.YtjohfkfpfjdceaaGreatDoor
