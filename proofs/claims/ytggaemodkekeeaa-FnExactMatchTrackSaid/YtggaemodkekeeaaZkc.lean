/- The laws' own functions on lists of places: what the loops tell in the end. -/
/- Printed by gen2.py. -/
import Derived.Test.YtggaemodkekeeaaLlf
import Derived.Test.YtggaemodkekeeaaYm
import Derived.Test.YtggaemodkekeeaaDt
import Derived.Test.YtggaemodkekeeaaYg
import Derived.Test.YtggaemodkekeeaaYc
import Derived.Test.YtggaemodkekeeaaZa
import Derived.Test.YtggaemodkekeeaaZt

namespace Go.Dv
open Go.Cv

theorem fill_set {α : Type} (l : List α) (z : α) (i : Nat) (hi : i < l.length) : (l.take i ++ List.replicate (l.length - i) z).set i l[i] = l.take (i + 1) ++ List.replicate (l.length - (i + 1)) z := by
  have e1 : l.length - i = (l.length - (i + 1)) + 1 := by omega
  have e2 : (l.take i).length = i := by rw [List.length_take]; omega
  rw [List.set_append_right _ _ (by omega), e2, Nat.sub_self, e1, List.replicate_succ, List.set_cons_zero, List.take_succ_eq_append_getElem hi, List.append_assoc]
  rfl
theorem fill_len {α : Type} (l : List α) (z : α) (i : Nat) (hi : i ≤ l.length) : (l.take i ++ List.replicate (l.length - i) z).length = l.length := by
  rw [List.length_append, List.length_take, List.length_replicate]; omega

theorem toPlaceS_words (l : List (Nat × Nat)) (hl : l.length ≤ 1073741824) : r_laws_toPlaceS_w R l = true ∧ p_laws_toPlaceS_w R l = l := by
  have h := runW_count (step := fun x => st_laws_toPlaceS_w_0 R x.1 x.2.1 x.2.2.1) (n := l.length) (mk := fun i => (l, l.take i ++ List.replicate (l.length - i) (0, 0), (i : Int), ())) (o := (l, ()))
    (fun i hi => by
      have hlen := fill_len l (0, 0) i (by omega)
      simp only [st_laws_toPlaceS_w_0, Int.toNat_natCast, p_laws_toPlace, List.length_set, hlen]
      have h1 : decide ((i : Int) < (l.length : Int)) = true := by simpa using hi
      have h2 : decide (0 ≤ (i : Int)) = true := by simp
      have h3 : Nat.blt i l.length = true := by simpa [Nat.blt_eq] using hi
      have h4 : Nat.beq l.length l.length = true := Nat.beq_refl _
      rw [h1, h2, h3, h4, wrap_succ (by omega), getD_lt hi]
      have h5 : ((l[i]).1, (l[i]).2) = l[i] := rfl
      rw [h5, fill_set l (0, 0) i hi]
      rfl)
    (by
      simp only [st_laws_toPlaceS_w_0, Nat.sub_self, List.replicate_zero, List.append_nil, List.take_length]
      simp [brT])
  have e : c0_laws_toPlaceS_w R l = runW (fun x => st_laws_toPlaceS_w_0 R x.1 x.2.1 x.2.2.1) (l, l.take 0 ++ List.replicate (l.length - 0) (0, 0), ((0 : Nat) : Int), ()) := by
    rw [Nat.sub_zero]; rfl
  rw [h] at e
  unfold r_laws_toPlaceS_w p_laws_toPlaceS_w
  rw [e]
  refine ⟨?_, rfl⟩
  have h1 : decide ((l.length : Int) ≤ Int.ofNat 1073741824) = true := decide_eq_true (by show (l.length : Int) ≤ 1073741824; omega)
  rw [h1]
  simp

theorem eqPlaceS_words (a b : List (Nat × Nat)) (hl : a.length < 2 ^ 62) : r_laws_eqPlaceS_w R a b = true ∧ p_laws_eqPlaceS_w R a b = p_laws_eqPlaceS R a b := by
  unfold r_laws_eqPlaceS_w p_laws_eqPlaceS_w p_laws_eqPlaceS
  by_cases hab : a.length = b.length
  · have hne : ((a.length : Int) != (b.length : Int)) = false := by rw [hab]; simp
    have hd : decide ((a.length : Int) = (b.length : Int)) = true := decide_eq_true (by omega)
    have h := runW_scan (step := fun x => st_laws_eqPlaceS_w_0 R x.1 x.2.1 x.2.2.1 x.2.2.2.1) (n := a.length) (test := fun i => p_laws_eqPlace R (a.getD i (0, 0)).1 (a.getD i (0, 0)).2 (b.getD i (0, 0)).1 (b.getD i (0, 0)).2) (mk := fun i => (a, b, (i : Int), false, ()))
      (oT := .inr (false, ())) (oF := fun _ => .inl (false, ()))
      (fun i hi => by
        simp only [st_laws_eqPlaceS_w_0, Int.toNat_natCast]
        have h1 : decide ((i : Int) < (a.length : Int)) = true := by simpa using hi
        have h2 : decide (0 ≤ (i : Int)) = true := by simp
        rw [← hab, h1, h2, wrap_succ (by omega)]
        cases p_laws_eqPlace R (a.getD i (0, 0)).1 (a.getD i (0, 0)).2 (b.getD i (0, 0)).1 (b.getD i (0, 0)).2 <;> rfl)
      (by simp only [st_laws_eqPlaceS_w_0]; simp [brT])
    have e : c0_laws_eqPlaceS_w R a b = runW (fun x => st_laws_eqPlaceS_w_0 R x.1 x.2.1 x.2.2.1 x.2.2.2.1) (a, b, ((0 : Nat) : Int), false, ()) := rfl
    rw [hne, hd]
    rcases h with ⟨h1, h2⟩ | ⟨j, hj, h1, h2⟩
    · rw [e, h2]
      refine ⟨rfl, ?_⟩
      show true = _
      symm
      rw [Bool.true_and, List.all_eq_true]
      intro i hi
      exact h1 i (List.mem_range.1 hi)
    · rw [e, h2]
      refine ⟨rfl, ?_⟩
      show false = _
      symm
      rw [Bool.true_and]
      cases hx : (List.range a.length).all fun i => p_laws_eqPlace R (a.getD i (0, 0)).1 (a.getD i (0, 0)).2 (b.getD i (0, 0)).1 (b.getD i (0, 0)).2
      · rfl
      · have := List.all_eq_true.1 hx j (List.mem_range.2 hj)
        rw [h1] at this; cases this
  · have hne : ((a.length : Int) != (b.length : Int)) = true := bne_iff_ne.2 (by omega)
    have hd : decide ((a.length : Int) = (b.length : Int)) = false := decide_eq_false (by omega)
    rw [hne, hd]
    exact ⟨rfl, rfl⟩
end Go.Dv
namespace Go.Proofs.Ytggaemodkekeeaa
open Go Go.Cv Go.Dv
theorem ok_laws_toPlaceS : OkFn Try.prog 9 (S_laws_toPlaceS R) := ok_words ok_laws_toPlaceS_w fun x hx => by
  obtain ⟨h1, h2⟩ := toPlaceS_words x.1 (by simpa using hx)
  exact ⟨h1, by unfold F_laws_toPlaceS_w; rw [h2]⟩
theorem ok_laws_eqPlaceS : OkFn Try.prog 13 (S_laws_eqPlaceS R) := ok_words ok_laws_eqPlaceS_w fun x hx => by
  obtain ⟨h1, h2⟩ := eqPlaceS_words x.1 x.2.1 (by simpa using hx)
  exact ⟨h1, by unfold F_laws_eqPlaceS_w; rw [h2]⟩
end Go.Proofs.Ytggaemodkekeeaa


set_option linter.unusedVariables false
set_option linter.unusedSimpArgs false

-- GENERATED BELOW (gen.py)
namespace Go.Proofs.Ytggaemodkekeeaa
open Go Go.Cv Go.Dv
set_option maxRecDepth 100000 in
theorem e_laws_szPlaceS (M : FOps) (a0 : (List (Nat × Nat))) (a1 : Int) : cwp M Try.prog (envOf []) (lamOf []) 40 (Try.f6.body.getD .skip) 0 (retK Try.prog Try.f6.results.toList (.cons (.one (.int .i64)) .nil) 0) (initSt (.cons (.one (.ls (.pair (.fl .f32) (.fl .f32)))) (.cons (.one (.int .i64)) .nil)) (a0, (a1, ()))) = some (F_laws_szPlaceS (p_laws_szPlaceS M a0 a1)) := 
  Eq.trans (b := (brT (decide (IntKind.i64.wrap (a1 - (↑a0.length : Int)) < 0)) (some (F_laws_szPlaceS (Int.negSucc 0))) (some (F_laws_szPlaceS (IntKind.i64.wrap (a1 - (↑a0.length : Int))))))) (by kernel_rfl)
    ((push2 rfl rfl))
theorem ok_laws_szPlaceS : OkFn Try.prog 6 (S_laws_szPlaceS R) :=
  okFn_of good_nil follows Try.func6 rfl (by decide) (by decide) lam_nil (m := 2) (fun _ => rfl) (by decide) (fun _ _ h => nomatch h) (fun _ _ h => nomatch h) (fun x _ => ⟨40, e_laws_szPlaceS R x.1 x.2.1⟩)

end Go.Proofs.Ytggaemodkekeeaa


set_option linter.unusedVariables false
set_option linter.unusedSimpArgs false

-- GENERATED BELOW (gen.py)
namespace Go.Proofs.Ytggaemodkekeeaa
open Go Go.Cv Go.Dv
set_option maxRecDepth 100000 in
theorem e_spec_l00In (M : FOps) (a0 : Int) (a1 : Int) (a2 : Int) : cwp M Try.prog (envOf []) (lamOf []) 40 (Try.f28.body.getD .skip) 0 (retK Try.prog Try.f28.results.toList (.cons (.one .bool) .nil) 0) (initSt (.cons (.one (.int .i64)) (.cons (.one (.int .i64)) (.cons (.one (.int .i64)) .nil))) (a0, (a1, (a2, ())))) = some (F_spec_l00In (p_spec_l00In M a0 a1 a2)) := 
  Eq.trans (b := (brT (decide (a0 ≥ a1)) (some (F_spec_l00In (decide (a0 ≤ a2)))) (some (F_spec_l00In (false))))) (by kernel_rfl)
    ((push2 rfl rfl))
theorem ok_spec_l00In : OkFn Try.prog 28 (S_spec_l00In R) :=
  okFn_of good_nil follows Try.func28 rfl (by decide) (by decide) lam_nil (m := 3) (fun _ => rfl) (by decide) (fun _ _ h => nomatch h) (fun _ _ h => nomatch h) (fun x _ => ⟨40, e_spec_l00In R x.1 x.2.1 x.2.2.1⟩)

end Go.Proofs.Ytggaemodkekeeaa
