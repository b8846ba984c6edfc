/- Lists of numbers and of places: what the loops tell in the end. -/
import Derived.Test.YtbgpobiaaebbeaaDoorZa
import Derived.Test.YtbgpobiaaebbeaaDoorLo

namespace Go.Dv
open Go.Cv

theorem placeSame (a b : Nat) : p_impl_ValidPlace R a b = p_spec_l02Is R a b := by
  unfold p_impl_ValidPlace p_spec_l02Is p_impl_inside
  generalize R.cmp BinOp.geq FloatKind.f32 a 3196059648 = x
  generalize R.cmp BinOp.leq FloatKind.f32 a 1048576000 = y
  generalize R.cmp BinOp.geq FloatKind.f32 b 3204448256 = z
  generalize R.cmp BinOp.lss FloatKind.f32 b 1056964608 = w
  cases x <;> cases y <;> cases z <;> cases w <;> rfl

theorem index_words (l : List (Nat × Nat)) (hl : l.length < 2 ^ 62) : r_slices_IndexFunc_impl_Place_impl_Place R l = true ∧ decide (p_slices_IndexFunc_impl_Place_impl_Place R l ≥ 0) = !validsB R l := by
  have h := runW_scan (step := fun x => st_slices_IndexFunc_impl_Place_impl_Place_0 R x.1 x.2.2.1 x.2.2.2.1 x.2.2.2.2.1) (n := l.length) (test := fun i => p_impl_ValidPlace R (l.getD i (0, 0)).1 (l.getD i (0, 0)).2) (mk := fun i => (l, (), (l.length : Int), (i : Int), 0, ()))
    (oT := .inr (0, ())) (oF := fun i => .inl ((i : Int), ()))
    (fun i hi => by
      simp only [st_slices_IndexFunc_impl_Place_impl_Place_0, Int.toNat_natCast, p_impl_areValid_1]
      have h1 : decide ((i : Int) < (l.length : Int)) = true := by simpa using hi
      have h2 : decide (0 ≤ (i : Int)) = true := by simp
      rw [h1, h2, wrap_succ (by omega)]
      cases p_impl_ValidPlace R (l.getD i (0, 0)).1 (l.getD i (0, 0)).2 <;> rfl)
    (by simp only [st_slices_IndexFunc_impl_Place_impl_Place_0]; simp [brT])
  have e : c0_slices_IndexFunc_impl_Place_impl_Place R l = runW (fun x => st_slices_IndexFunc_impl_Place_impl_Place_0 R x.1 x.2.2.1 x.2.2.2.1 x.2.2.2.2.1) (l, (), (l.length : Int), ((0 : Nat) : Int), 0, ()) := rfl
  unfold r_slices_IndexFunc_impl_Place_impl_Place p_slices_IndexFunc_impl_Place_impl_Place validsB
  rcases h with ⟨h1, h2⟩ | ⟨j, hj, h1, h2⟩
  · rw [e, h2]
    refine ⟨rfl, ?_⟩
    have : l.all (fun x => p_impl_ValidPlace R x.1 x.2) = true := all_iff.1 fun i hi => by
      have := h1 i hi
      rwa [getD_lt hi] at this
    rw [this]; rfl
  · rw [e, h2]
    refine ⟨rfl, ?_⟩
    have hf : l.all (fun x => p_impl_ValidPlace R x.1 x.2) = false := by
      cases ha : l.all (fun x => p_impl_ValidPlace R x.1 x.2)
      · rfl
      · have := all_iff.2 ha j hj
        rw [getD_lt hj] at h1
        rw [h1] at this; cases this
    rw [hf]
    show decide ((j : Int) ≥ 0) = true
    simp

theorem areValid_words (l : List (Nat × Nat)) (hl : l.length < 2 ^ 62) : r_impl_areValid_w R l = true ∧ p_impl_areValid_w R l = validsB R l := by
  obtain ⟨h1, h2⟩ := index_words l hl
  unfold r_impl_areValid_w p_impl_areValid_w r_slices_ContainsFunc_impl_Place_impl_Place p_slices_ContainsFunc_impl_Place_impl_Place
  show ((r_slices_IndexFunc_impl_Place_impl_Place R l && true) && true) = true ∧ (!decide (p_slices_IndexFunc_impl_Place_impl_Place R l ≥ 0)) = validsB R l
  rw [h1, h2]
  exact ⟨rfl, Bool.not_not _⟩

theorem l02Are_words (l : List (Nat × Nat)) (hl : l.length < 2 ^ 62) : r_spec_l02Are_w R l = true ∧ p_spec_l02Are_w R l = placesB R l := by
  have h := runW_scan (step := fun x => st_spec_l02Are_w_0 R x.1 x.2.1 x.2.2.1) (n := l.length) (test := fun i => p_impl_ValidPlace R (l.getD i (0, 0)).1 (l.getD i (0, 0)).2) (mk := fun i => (l, (i : Int), false, ()))
    (oT := .inr (l, false, ())) (oF := fun _ => .inl (false, ()))
    (fun i hi => by
      simp only [st_spec_l02Are_w_0, Int.toNat_natCast, ← placeSame]
      have h1 : decide ((i : Int) < (l.length : Int)) = true := by simpa using hi
      have h2 : decide (0 ≤ (i : Int)) = true := by simp
      rw [h1, h2, wrap_succ (by omega)]
      cases p_impl_ValidPlace R (l.getD i (0, 0)).1 (l.getD i (0, 0)).2 <;> rfl)
    (by simp only [st_spec_l02Are_w_0]; simp [brT])
  have e : c0_spec_l02Are_w R l = runW (fun x => st_spec_l02Are_w_0 R x.1 x.2.1 x.2.2.1) (l, ((0 : Nat) : Int), false, ()) := rfl
  unfold r_spec_l02Are_w p_spec_l02Are_w placesB validsB
  rcases h with ⟨h1, h2⟩ | ⟨j, hj, h1, h2⟩
  · rw [e, h2]
    refine ⟨rfl, ?_⟩
    have : l.all (fun x => p_impl_ValidPlace R x.1 x.2) = true := all_iff.1 fun i hi => by
      have := h1 i hi
      rwa [getD_lt hi] at this
    rw [this]
    show (bif decide ((l.length : Int) ≥ 1) then decide ((l.length : Int) ≤ 64) else false) = (true && (decide (1 ≤ l.length) && decide (l.length ≤ 64)))
    have a1 : decide ((l.length : Int) ≥ 1) = decide (1 ≤ l.length) := decide_eq_decide.2 (by omega)
    have a2 : decide ((l.length : Int) ≤ 64) = decide (l.length ≤ 64) := decide_eq_decide.2 (by omega)
    rw [a1, a2]
    cases decide (1 ≤ l.length) <;> rfl
  · rw [e, h2]
    refine ⟨rfl, ?_⟩
    have hf : l.all (fun x => p_impl_ValidPlace R x.1 x.2) = false := by
      cases ha : l.all (fun x => p_impl_ValidPlace R x.1 x.2)
      · rfl
      · have := all_iff.2 ha j hj
        rw [getD_lt hj] at h1
        rw [h1] at this; cases this
    rw [hf]; rfl
end Go.Dv
namespace Go.Proofs.YtbgpobiaaebbeaaDoor
open Go Go.Cv Go.Dv

theorem ok_impl_areValid : OkFn Tryd.prog 74 (S_impl_areValid R) := ok_words ok_impl_areValid_w fun x hx => by
  obtain ⟨h1, h2⟩ := areValid_words x.1 (by simpa using hx)
  exact ⟨h1, by unfold F_impl_areValid_w; rw [h2]⟩
theorem ok_spec_l02Are : OkFn Tryd.prog 44 (S_spec_l02Are R) := ok_words ok_spec_l02Are_w fun x hx => by
  obtain ⟨h1, h2⟩ := l02Are_words x.1 (by simpa using hx)
  exact ⟨h1, by unfold F_spec_l02Are_w; rw [h2]⟩
end Go.Proofs.YtbgpobiaaebbeaaDoor
