/- Lists of numbers and of places: what the loops tell in the end. -/
/- Printed by gen2.py. -/
/- Places' lists, by other words. -/
/- The contracts of sine and angle. -/
import Derived.Test.YtggaemodkekeeaaNc
import Derived.Test.YtggaemodkekeeaaYm
import Derived.Test.YtggaemodkekeeaaZa

namespace Go.Dv
open Go.Cv

theorem placeSame (a b : Nat) : p_impl_ValidPlace R a b = p_spec_l02Is R a b := by
  unfold p_impl_ValidPlace p_spec_l02Is p_impl_inside
  generalize R.cmp BinOp.geq FloatKind.f32 a 3196059648 = x
  generalize R.cmp BinOp.leq FloatKind.f32 a 1048576000 = y
  generalize R.cmp BinOp.geq FloatKind.f32 b 3204448256 = z
  generalize R.cmp BinOp.lss FloatKind.f32 b 1056964608 = w
  cases x <;> cases y <;> cases z <;> cases w <;> rfl

theorem areFinite_words (l : List Nat) (hl : l.length < 2 ^ 62) : r_impl_areFinite_w R l = true ∧ p_impl_areFinite_w R l = finsB R l := by
  have h := runW_scan (step := fun x => st_impl_areFinite_w_0 R x.1 x.2.1 x.2.2.1 x.2.2.2.1) (n := l.length) (test := fun i => p_impl_IsFinite R (l.getD i 0)) (mk := fun i => (l, (l.length : Int), (i : Int), false, ()))
    (oT := .inr (false, ())) (oF := fun _ => .inl (false, ()))
    (fun i hi => by
      simp only [st_impl_areFinite_w_0, Int.toNat_natCast]
      have h1 : decide ((i : Int) < (l.length : Int)) = true := by simpa using hi
      have h2 : decide (0 ≤ (i : Int)) = true := by simp
      rw [h1, h2, wrap_succ (by omega)]
      cases p_impl_IsFinite R (l.getD i 0) <;> rfl)
    (by simp only [st_impl_areFinite_w_0]; simp [brT])
  have e : c0_impl_areFinite_w R l = runW (fun x => st_impl_areFinite_w_0 R x.1 x.2.1 x.2.2.1 x.2.2.2.1) (l, (l.length : Int), ((0 : Nat) : Int), false, ()) := rfl
  unfold r_impl_areFinite_w p_impl_areFinite_w finsB
  rcases h with ⟨h1, h2⟩ | ⟨j, hj, h1, h2⟩
  · rw [e, h2]
    refine ⟨rfl, (all_iff.1 fun i hi => ?_).symm⟩
    have := h1 i hi
    rwa [getD_lt hi] at this
  · rw [e, h2]
    refine ⟨rfl, ?_⟩
    cases ha : l.all (fun x => p_impl_IsFinite R x)
    · rfl
    · have := all_iff.2 ha j hj
      rw [getD_lt hj] at h1
      rw [h1] at this; cases this

theorem index_words (l : List (Nat × Nat)) (hl : l.length < 2 ^ 62) : r_slices_IndexFunc_impl_Place_impl_Place R l = true ∧ decide (p_slices_IndexFunc_impl_Place_impl_Place R l ≥ 0) = !validsB R l := by
  have h := runW_scan (step := fun x => st_slices_IndexFunc_impl_Place_impl_Place_0 R x.1 x.2.2.1 x.2.2.2.1 x.2.2.2.2.1) (n := l.length) (test := fun i => p_impl_ValidPlace R (l.getD i (0, 0)).1 (l.getD i (0, 0)).2) (mk := fun i => (l, (), (l.length : Int), (i : Int), 0, ()))
    (oT := .inr (0, ())) (oF := fun i => .inl ((i : Int), ()))
    (fun i hi => by
      simp only [st_slices_IndexFunc_impl_Place_impl_Place_0, Int.toNat_natCast, p_impl_areValid_1]
      have h1 : decide ((i : Int) < (l.length : Int)) = true := by simpa using hi
      have h2 : decide (0 ≤ (i : Int)) = true := by simp
      rw [h1, h2, wrap_succ (by omega)]
      cases p_impl_ValidPlace R (l.getD i (0, 0)).1 (l.getD i (0, 0)).2 <;> rfl)
    (by simp only [st_slices_IndexFunc_impl_Place_impl_Place_0]; simp [brT])
  have e : c0_slices_IndexFunc_impl_Place_impl_Place R l = runW (fun x => st_slices_IndexFunc_impl_Place_impl_Place_0 R x.1 x.2.2.1 x.2.2.2.1 x.2.2.2.2.1) (l, (), (l.length : Int), ((0 : Nat) : Int), 0, ()) := rfl
  unfold r_slices_IndexFunc_impl_Place_impl_Place p_slices_IndexFunc_impl_Place_impl_Place validsB
  rcases h with ⟨h1, h2⟩ | ⟨j, hj, h1, h2⟩
  · rw [e, h2]
    refine ⟨rfl, ?_⟩
    have : l.all (fun x => p_impl_ValidPlace R x.1 x.2) = true := all_iff.1 fun i hi => by
      have := h1 i hi
      rwa [getD_lt hi] at this
    rw [this]; rfl
  · rw [e, h2]
    refine ⟨rfl, ?_⟩
    have hf : l.all (fun x => p_impl_ValidPlace R x.1 x.2) = false := by
      cases ha : l.all (fun x => p_impl_ValidPlace R x.1 x.2)
      · rfl
      · have := all_iff.2 ha j hj
        rw [getD_lt hj] at h1
        rw [h1] at this; cases this
    rw [hf]
    show decide ((j : Int) ≥ 0) = true
    simp

theorem areValid_words (l : List (Nat × Nat)) (hl : l.length < 2 ^ 62) : r_impl_areValid_w R l = true ∧ p_impl_areValid_w R l = validsB R l := by
  obtain ⟨h1, h2⟩ := index_words l hl
  unfold r_impl_areValid_w p_impl_areValid_w r_slices_ContainsFunc_impl_Place_impl_Place p_slices_ContainsFunc_impl_Place_impl_Place
  show ((r_slices_IndexFunc_impl_Place_impl_Place R l && true) && true) = true ∧ (!decide (p_slices_IndexFunc_impl_Place_impl_Place R l ≥ 0)) = validsB R l
  rw [h1, h2]
  exact ⟨rfl, Bool.not_not _⟩

theorem l02Are_words (l : List (Nat × Nat)) (hl : l.length < 2 ^ 62) : r_spec_l02Are_w R l = true ∧ p_spec_l02Are_w R l = placesB R l := by
  have h := runW_scan (step := fun x => st_spec_l02Are_w_0 R x.1 x.2.1 x.2.2.1) (n := l.length) (test := fun i => p_impl_ValidPlace R (l.getD i (0, 0)).1 (l.getD i (0, 0)).2) (mk := fun i => (l, (i : Int), false, ()))
    (oT := .inr (l, false, ())) (oF := fun _ => .inl (false, ()))
    (fun i hi => by
      simp only [st_spec_l02Are_w_0, Int.toNat_natCast, ← placeSame]
      have h1 : decide ((i : Int) < (l.length : Int)) = true := by simpa using hi
      have h2 : decide (0 ≤ (i : Int)) = true := by simp
      rw [h1, h2, wrap_succ (by omega)]
      cases p_impl_ValidPlace R (l.getD i (0, 0)).1 (l.getD i (0, 0)).2 <;> rfl)
    (by simp only [st_spec_l02Are_w_0]; simp [brT])
  have e : c0_spec_l02Are_w R l = runW (fun x => st_spec_l02Are_w_0 R x.1 x.2.1 x.2.2.1) (l, ((0 : Nat) : Int), false, ()) := rfl
  unfold r_spec_l02Are_w p_spec_l02Are_w placesB validsB
  rcases h with ⟨h1, h2⟩ | ⟨j, hj, h1, h2⟩
  · rw [e, h2]
    refine ⟨rfl, ?_⟩
    have : l.all (fun x => p_impl_ValidPlace R x.1 x.2) = true := all_iff.1 fun i hi => by
      have := h1 i hi
      rwa [getD_lt hi] at this
    rw [this]
    show (bif decide ((l.length : Int) ≥ 1) then decide ((l.length : Int) ≤ 64) else false) = (true && (decide (1 ≤ l.length) && decide (l.length ≤ 64)))
    have a1 : decide ((l.length : Int) ≥ 1) = decide (1 ≤ l.length) := decide_eq_decide.2 (by omega)
    have a2 : decide ((l.length : Int) ≤ 64) = decide (l.length ≤ 64) := decide_eq_decide.2 (by omega)
    rw [a1, a2]
    cases decide (1 ≤ l.length) <;> rfl
  · rw [e, h2]
    refine ⟨rfl, ?_⟩
    have hf : l.all (fun x => p_impl_ValidPlace R x.1 x.2) = false := by
      cases ha : l.all (fun x => p_impl_ValidPlace R x.1 x.2)
      · rfl
      · have := all_iff.2 ha j hj
        rw [getD_lt hj] at h1
        rw [h1] at this; cases this
    rw [hf]; rfl
end Go.Dv
namespace Go.Proofs.Ytggaemodkekeeaa
open Go Go.Cv Go.Dv

theorem ok_impl_areFinite : OkFn Try.prog 98 (S_impl_areFinite R) := ok_words ok_impl_areFinite_w fun x hx => by
  obtain ⟨h1, h2⟩ := areFinite_words x.1 (by simpa using hx)
  exact ⟨h1, by unfold F_impl_areFinite_w; rw [h2]⟩
theorem ok_impl_areValid : OkFn Try.prog 56 (S_impl_areValid R) := ok_words ok_impl_areValid_w fun x hx => by
  obtain ⟨h1, h2⟩ := areValid_words x.1 (by simpa using hx)
  exact ⟨h1, by unfold F_impl_areValid_w; rw [h2]⟩
theorem ok_spec_l02Are : OkFn Try.prog 27 (S_spec_l02Are R) := ok_words ok_spec_l02Are_w fun x hx => by
  obtain ⟨h1, h2⟩ := l02Are_words x.1 (by simpa using hx)
  exact ⟨h1, by unfold F_spec_l02Are_w; rw [h2]⟩
end Go.Proofs.Ytggaemodkekeeaa


set_option linter.unusedVariables false
set_option linter.unusedSimpArgs false

-- GENERATED BELOW (gen.py)
namespace Go.Proofs.Ytggaemodkekeeaa
open Go Go.Cv Go.Dv
set_option maxRecDepth 100000 in
theorem e_impl_ArePlaces_w (M : FOps) (a0 : (List (Nat × Nat))) (h : r_impl_ArePlaces_w M a0 = true) : cwp M Try.prog (envOf [(56, S_impl_areValid M), (35, S_impl_within M), (53, S_impl_length_impl_Place M)]) (lamOf []) 40 (Try.f34.body.getD .skip) 0 (retK Try.prog Try.f34.results.toList (.cons (.one .bool) .nil) 0) (initSt (.cons (.one (.ls (.pair (.fl .f32) (.fl .f32)))) .nil) (a0, ())) = some (F_impl_ArePlaces_w (p_impl_ArePlaces_w M a0)) := 
  Eq.trans (b := (brT (p_impl_within M (p_impl_length_impl_Place M a0) 1 64) (brT (decide (a0.length < 4611686018427387904)) (some (F_impl_ArePlaces_w (a0.all fun x => p_impl_ValidPlace M x.1 x.2))) none) (some (F_impl_ArePlaces_w (false))))) (by kernel_rfl)
    ((pushR (pushL (fun _ => rfl)) (fun _ => rfl)) h)
theorem ok_impl_ArePlaces_w : OkFn Try.prog 34 (S_impl_ArePlaces_w R) :=
  okFn_of (good_cons ok_impl_areValid (good_cons ok_impl_within (good_cons ok_impl_length_impl_Place good_nil))) follows Try.func34 rfl (by decide) (by decide) lam_nil (m := 1) (fun _ => rfl) (by decide) (fun _ _ h => nomatch h) (fun _ _ h => nomatch h) (fun x hx => ⟨40, e_impl_ArePlaces_w R x.1 hx⟩)

end Go.Proofs.Ytggaemodkekeeaa


namespace Go.Proofs.Ytggaemodkekeeaa
open Go Go.Cv Go.Dv

theorem arePlaces_words (l : List (Nat × Nat)) (hl : l.length < 2 ^ 62) : r_impl_ArePlaces_w R l = true ∧ p_impl_ArePlaces_w R l = placesB R l := by
  unfold r_impl_ArePlaces_w p_impl_ArePlaces_w placesB
  have a1 : decide ((l.length : Int) ≥ 1) = decide (1 ≤ l.length) := decide_eq_decide.2 (by omega)
  have a2 : decide ((l.length : Int) ≤ 64) = decide (l.length ≤ 64) := decide_eq_decide.2 (by omega)
  have a3 : decide (l.length < 4611686018427387904) = true := by simpa using hl
  have e : p_impl_within R (p_impl_length_impl_Place R l) 1 64 = (decide (1 ≤ l.length) && decide (l.length ≤ 64)) := by
    rw [← a1, ← a2]
    unfold p_impl_within p_impl_length_impl_Place
    cases decide ((l.length : Int) ≥ 1) <;> cases decide ((l.length : Int) ≤ 64) <;> rfl
  rw [e, a3]
  show _ ∧ (bif _ then validsB R l else false) = _
  cases (decide (1 ≤ l.length) && decide (l.length ≤ 64)) <;> cases validsB R l <;> exact ⟨rfl, rfl⟩
theorem ok_impl_ArePlaces : OkFn Try.prog 34 (S_impl_ArePlaces R) := ok_words ok_impl_ArePlaces_w fun x hx => by
  obtain ⟨h1, h2⟩ := arePlaces_words x.1 (by simpa using hx)
  exact ⟨h1, by unfold F_impl_ArePlaces_w; rw [h2]⟩
end Go.Proofs.Ytggaemodkekeeaa


namespace Go.Proofs.Ytggaemodkekeeaa
open Go Go.Cv Go.Dv

theorem ok_spec_l01SineWide : OkFn Try.prog 103 (S_spec_l01SineWide R) := ok_spec_l01SineWide_of rr_spec_l01SineWide
theorem ok_impl_AngleTurns : OkFn Try.prog 79 (S_impl_AngleTurns R) :=
  okFn_of (good_cons ok_impl_areFinite (good_cons ok_math_NaN (good_cons ok_Abs (good_cons ok_math_Sqrt good_nil)))) follows Try.func79 rfl (by decide) (by decide) lam_nil (m := 2) (fun _ => rfl) (by decide) (fun _ _ h => nomatch h) (fun _ _ h => nomatch h)
    (fun x _ => ⟨20, e_impl_AngleTurns R x.1 x.2.1 (rr_impl_AngleTurns _ _)⟩)
end Go.Proofs.Ytggaemodkekeeaa
