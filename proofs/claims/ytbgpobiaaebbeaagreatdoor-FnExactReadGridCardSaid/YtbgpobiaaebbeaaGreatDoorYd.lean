/- Printed by gen2.py. -/
/- Lists of numbers and of places: what the loops tell in the end. -/
import Derived.Test.YtbgpobiaaebbeaaGreatDoorLo
import Derived.Test.YtbgpobiaaebbeaaGreatDoorWa
import Derived.Test.YtbgpobiaaebbeaaGreatDoorYa

set_option linter.unusedVariables false
set_option linter.unusedSimpArgs false

-- GENERATED BELOW (gen.py)
namespace Go.Proofs.YtbgpobiaaebbeaaGreatDoor
open Go Go.Cv Go.Dv
set_option maxRecDepth 100000 in
theorem hs_impl_areFinite_w_0 (M : FOps) (v0 : (List Nat)) (v1 : Int) (v2 : Int) (v3 : Bool) : cwp M Tryz.prog (envOf [(43, S_impl_IsFinite M)]) (lamOf []) 40 ((loopsOf (Tryz.f28.body.getD .skip)).getD 0 .skip) 1 (stepK (.cons (.tv 5 true (.ls (.fl .f32))) (.cons (.tv 6 false (.int .i64)) (.cons (.tv 7 false (.int .i64)) (.cons (.tv 2 false .bool) .nil)))) [(.ret, (.cons (.tv 2 false .bool) .nil)), ((.exit 0), (.cons (.tv 2 false .bool) .nil))]) (canon (.cons (.tv 5 true (.ls (.fl .f32))) (.cons (.tv 6 false (.int .i64)) (.cons (.tv 7 false (.int .i64)) (.cons (.tv 2 false .bool) .nil)))) 0 0 (v0, (v1, (v2, (v3, ()))))) = st_impl_areFinite_w_0 M v0 v1 v2 v3 := by
  unfold st_impl_areFinite_w_0
  kernel_rfl
set_option maxRecDepth 100000 in
theorem lk_impl_areFinite_w_0 : LOk Tryz.prog Tryz.f28.ntmps ((loopsOf (Tryz.f28.body.getD .skip)).getD 0 .skip) (L_impl_areFinite_w_0 R) :=
  lok (F := 40) (Λ := lamOf []) (b := 1) (good_cons ok_impl_IsFinite good_nil) follows (by kernel_rfl) (fun _ _ _ _ h => nomatch h) (by decide) (by decide) (by decide) (fun x => hs_impl_areFinite_w_0 R x.1 x.2.1 x.2.2.1 x.2.2.2.1)
set_option maxRecDepth 100000 in
theorem e_impl_areFinite_w (M : FOps) (a0 : (List Nat)) (h : r_impl_areFinite_w M a0 = true) : cwp M Tryz.prog (envOf [(43, S_impl_IsFinite M)]) (lamOf [(0, L_impl_areFinite_w_0 M)]) 40 (Tryz.f28.body.getD .skip) 0 (retK Tryz.prog Tryz.f28.results.toList (.cons (.one .bool) .nil) 0) (initSt (.cons (.one (.ls (.fl .f32))) .nil) (a0, ())) = some (F_impl_areFinite_w (p_impl_areFinite_w M a0)) := 
  Eq.trans (b := (brT ((c0_impl_areFinite_w M a0).isSome) (brT (isL ((c0_impl_areFinite_w M a0).getD (Sum.inl (false, ())))) (some (F_impl_areFinite_w ((getL (false, ()) ((c0_impl_areFinite_w M a0).getD (Sum.inl (false, ())))).fst))) (some (F_impl_areFinite_w (true)))) none)) (by kernel_rfl)
    ((pushL (fun _ => (push2 rfl rfl))) h)
theorem ok_impl_areFinite_w : OkFn Tryz.prog 28 (S_impl_areFinite_w R) :=
  okFn_of (good_cons ok_impl_IsFinite good_nil) follows Tryz.func28 rfl (by decide) (by decide) (lam_cons (i := 0) (cc := (loopsOf (Tryz.f28.body.getD .skip)).getD 0 .skip) (by kernel_rfl) lk_impl_areFinite_w_0 lam_nil) (m := 1) (fun _ => rfl) (by decide) (fun _ _ h => nomatch h) (fun _ _ h => nomatch h) (fun x hx => ⟨40, e_impl_areFinite_w R x.1 hx⟩)

end Go.Proofs.YtbgpobiaaebbeaaGreatDoor


namespace Go.Dv
open Go.Cv

theorem areFinite_words (l : List Nat) (hl : l.length < 2 ^ 62) : r_impl_areFinite_w R l = true ∧ p_impl_areFinite_w R l = finsB R l := by
  have h := runW_scan (step := fun x => st_impl_areFinite_w_0 R x.1 x.2.1 x.2.2.1 x.2.2.2.1) (n := l.length) (test := fun i => p_impl_IsFinite R (l.getD i 0)) (mk := fun i => (l, (l.length : Int), (i : Int), false, ()))
    (oT := .inr (false, ())) (oF := fun _ => .inl (false, ()))
    (fun i hi => by
      simp only [st_impl_areFinite_w_0, Int.toNat_natCast]
      have h1 : decide ((i : Int) < (l.length : Int)) = true := by simpa using hi
      have h2 : decide (0 ≤ (i : Int)) = true := by simp
      rw [h1, h2, wrap_succ (by omega)]
      cases p_impl_IsFinite R (l.getD i 0) <;> rfl)
    (by simp only [st_impl_areFinite_w_0]; simp [brT])
  have e : c0_impl_areFinite_w R l = runW (fun x => st_impl_areFinite_w_0 R x.1 x.2.1 x.2.2.1 x.2.2.2.1) (l, (l.length : Int), ((0 : Nat) : Int), false, ()) := rfl
  unfold r_impl_areFinite_w p_impl_areFinite_w finsB
  rcases h with ⟨h1, h2⟩ | ⟨j, hj, h1, h2⟩
  · rw [e, h2]
    refine ⟨rfl, (all_iff.1 fun i hi => ?_).symm⟩
    have := h1 i hi
    rwa [getD_lt hi] at this
  · rw [e, h2]
    refine ⟨rfl, ?_⟩
    cases ha : l.all (fun x => p_impl_IsFinite R x)
    · rfl
    · have := all_iff.2 ha j hj
      rw [getD_lt hj] at h1
      rw [h1] at this; cases this

end Go.Dv
namespace Go.Proofs.YtbgpobiaaebbeaaGreatDoor
open Go Go.Cv Go.Dv

theorem ok_impl_areFinite : OkFn Tryz.prog 28 (S_impl_areFinite R) := ok_words ok_impl_areFinite_w fun x hx => by
  obtain ⟨h1, h2⟩ := areFinite_words x.1 (by simpa using hx)
  exact ⟨h1, by unfold F_impl_areFinite_w; rw [h2]⟩
end Go.Proofs.YtbgpobiaaebbeaaGreatDoor
