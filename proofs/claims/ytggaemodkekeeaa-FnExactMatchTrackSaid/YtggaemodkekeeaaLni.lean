/- Matching: where the sums are least, and the way back. -/
import Derived.Test.YtggaemodkekeeaaLnh
import Derived.Test.YtggaemodkekeeaaWnd

set_option linter.unusedSimpArgs false
set_option linter.unusedVariables false
namespace Go.Dv
open Go.Cv

/-- the first place of the least, of the first n -/
def am (s : List Int) : Nat → Nat
  | 0 => 0
  | n + 1 => if s.getD n 0 < s.getD (am s n) 0 then n else am s n
theorem am_lt (s : List Int) : ∀ n, am s (n + 1) < n + 1
  | 0 => by unfold am; split <;> simp [am]
  | n + 1 => by
    have := am_lt s n
    rw [am]; split <;> omega
theorem am_first (s : List Int) : ∀ n i, i < n → s.getD (am s n) 0 ≤ s.getD i 0 ∧ (i < am s n → s.getD (am s n) 0 < s.getD i 0)
  | 0, i, h => by omega
  | n + 1, i, h => by
    have ih := am_first s n
    rw [am]
    split
    · rename_i c
      refine ⟨?_, fun hi => ?_⟩
      · rcases Nat.lt_or_ge i n with h1 | h1
        · have := (ih i h1).1; omega
        · have : i = n := by omega
          subst this; omega
      · have := (ih i hi).1; omega
    · rename_i c
      rcases Nat.lt_or_ge i n with h1 | h1
      · exact ih i h1
      · have e : i = n := by omega
        subst e
        refine ⟨by omega, fun hi => ?_⟩
        exfalso
        rcases Nat.eq_zero_or_pos i with h0 | h0
        · subst h0; simp [am] at hi
        · obtain ⟨m, rfl⟩ : ∃ m, i = m + 1 := ⟨i - 1, by omega⟩
          have := am_lt s m
          omega

theorem min_eq (s : List Int) (h1 : 1 ≤ s.length) (h2 : s.length ≤ 64) : r_slices_Min_int64_int64 R s = true ∧ p_slices_Min_int64_int64 R s = s.getD (am s s.length) 0 := by
  have hc : c0_slices_Min_int64_int64 R s = some (s.getD (am s s.length) 0, 0, ()) := by
    have key : ∀ d i, i + d = s.length → 1 ≤ i → W_slices_Min_int64_int64_0 R (s, s.getD (am s i) 0, (i : Int), 0, ()) = some (s.getD (am s s.length) 0, 0, ()) := by
      intro d
      induction d with
      | zero =>
        intro i hi _
        have hi : i = s.length := by omega
        subst hi
        refine runW_out (x := (s, s.getD (am s s.length) 0, (s.length : Int), 0, ())) ?_
        show st_slices_Min_int64_int64_0 R s _ (s.length : Int) 0 = _
        unfold st_slices_Min_int64_int64_0
        rw [df (show ¬ (s.length : Int) < (s.length : Int) by omega)]; rfl
      | succ d ih =>
        intro i hi h0
        have hst : st_slices_Min_int64_int64_0 R s (s.getD (am s i) 0) (i : Int) 0 = some (.inl (s, s.getD (am s (i + 1)) 0, ((i + 1 : Nat) : Int), 0, ())) := by
          unfold st_slices_Min_int64_int64_0
          rw [dt (show (i : Int) < (s.length : Int) by omega), dt (show 0 ≤ (i : Int) by omega), wrap_succ (by omega), Int.toNat_natCast i, am]
          by_cases c : s.getD i 0 < s.getD (am s i) 0
          · rw [dt c, if_pos c]; rfl
          · rw [df c, if_neg c]; rfl
        refine (runW_on (x := (s, s.getD (am s i) 0, (i : Int), 0, ())) hst).trans ?_
        exact ih (i + 1) (by omega) (by omega)
    have h := key (s.length - 1) 1 (by omega) (Nat.le_refl _)
    have e : am s 1 = 0 := by unfold am; split <;> rfl
    rw [e] at h
    exact h
  unfold r_slices_Min_int64_int64 p_slices_Min_int64_int64
  rw [hc, df (show ¬ (s.length : Int) < 1 by omega), dt (show 0 < (s.length : Int) by omega)]
  exact ⟨rfl, rfl⟩

theorem index_eq (s : List Int) (h1 : 1 ≤ s.length) (h2 : s.length ≤ 64) : r_slices_Index_int64_int64 R s (s.getD (am s s.length) 0) = true ∧ p_slices_Index_int64_int64 R s (s.getD (am s s.length) 0) = (am s s.length : Int) := by
  have ha : am s s.length < s.length := by
    obtain ⟨m, hm⟩ : ∃ m, s.length = m + 1 := ⟨s.length - 1, by omega⟩
    have := am_lt s m
    rw [hm]; exact this
  have hf := am_first s s.length
  have hc : c0_slices_Index_int64_int64 R s (s.getD (am s s.length) 0) = some (.inl ((am s s.length : Int), ())) := by
    generalize am s s.length = a at *
    have key : ∀ d i, i + d = a → W_slices_Index_int64_int64_0 R (s, s.getD a 0, (s.length : Int), (i : Int), 0, ()) = some (.inl ((a : Int), ())) := by
      intro d
      induction d with
      | zero =>
        intro i hi
        have hi : i = a := by omega
        subst hi
        refine runW_out (x := (s, s.getD i 0, (s.length : Int), (i : Int), 0, ())) ?_
        show st_slices_Index_int64_int64_0 R s (s.getD i 0) (s.length : Int) (i : Int) 0 = _
        unfold st_slices_Index_int64_int64_0
        rw [dt (show (i : Int) < (s.length : Int) by omega), dt (show 0 ≤ (i : Int) by omega), Int.toNat_natCast i, beq_self_eq_true]; rfl
      | succ d ih =>
        intro i hi
        have h3 := (hf i (by omega)).2 (by omega)
        have hst : st_slices_Index_int64_int64_0 R s (s.getD a 0) (s.length : Int) (i : Int) 0 = some (.inl (s, s.getD a 0, (s.length : Int), ((i + 1 : Nat) : Int), 0, ())) := by
          unfold st_slices_Index_int64_int64_0
          have hne : (s.getD a 0 == s.getD i 0) = false := by
            rw [beq_eq_false_iff_ne]; omega
          rw [dt (show (i : Int) < (s.length : Int) by omega), dt (show 0 ≤ (i : Int) by omega), wrap_succ (by omega), Int.toNat_natCast i, hne]; rfl
        refine (runW_on (x := (s, s.getD a 0, (s.length : Int), (i : Int), 0, ())) hst).trans ?_
        exact ih (i + 1) (by omega)
    exact key a 0 (by omega)
  unfold r_slices_Index_int64_int64 p_slices_Index_int64_int64
  rw [hc]
  exact ⟨rfl, rfl⟩

theorem argmin_spec (s : List Int) (h1 : 1 ≤ s.length) (h2 : s.length ≤ 64) (v4 : List (Nat × Nat)) (v5 v6 : List (List Int)) (v7 : Int) (v8 : Bool) :
    W_spec_MatchTrack_5 R (s, 0, (s.length : Int), 0, v4, v5, v6, v7, v8, ()) = some (v4, s, v5, (am s s.length : Int), v6, v7, v8, ()) := by
  unfold W_spec_MatchTrack_5
  refine runW_count (n := s.length) (mk := fun i => (s, (am s i : Int), (s.length : Int), (i : Int), v4, v5, v6, v7, v8, ())) (fun i hi => ?_) ?_
  · show st_spec_MatchTrack_5 R s (am s i : Int) (s.length : Int) (i : Int) v4 v5 v6 v7 v8 = _
    have ha : am s i < s.length := by
      rcases Nat.eq_zero_or_pos i with h0 | h0
      · subst h0; show 0 < s.length; omega
      · obtain ⟨m, rfl⟩ : ∃ m, i = m + 1 := ⟨i - 1, by omega⟩
        have := am_lt s m
        omega
    unfold st_spec_MatchTrack_5
    rw [dt (show (i : Int) < (s.length : Int) by omega), dt (show 0 ≤ (i : Int) by omega), dt (show 0 ≤ (am s i : Int) by omega), dt (show (am s i : Int) < (s.length : Int) by omega), wrap_succ (by omega), Int.toNat_natCast i, Int.toNat_natCast (am s i), am, blt_tt hi, blt_tt ha]
    simp only [Nat.beq_refl]
    by_cases c : s.getD i 0 < s.getD (am s i) 0
    · rw [dt c, if_pos c]; rfl
    · rw [df c, if_neg c]; rfl
  · show st_spec_MatchTrack_5 R s (am s s.length : Int) (s.length : Int) (s.length : Int) v4 v5 v6 v7 v8 = _
    unfold st_spec_MatchTrack_5
    rw [df (show ¬ (s.length : Int) < (s.length : Int) by omega)]
    simp only [Nat.beq_refl]; rfl

/-- the way back: the d-th place from the end -/
def ats (B : List (List Int)) (a : Int) (M : Nat) : Nat → Int
  | 0 => a
  | d + 1 => (B.getD (M - 1 - d) []).getD (ats B a M d).toNat 0
def os (B : List (List Int)) (a : Int) (M : Nat) : Nat → List Int
  | 0 => List.replicate M 0
  | d + 1 => (os B a M d).set (M - 1 - d) (ats B a M d)
theorem os_len (B : List (List Int)) (a : Int) (M : Nat) : ∀ d, (os B a M d).length = M
  | 0 => by simp [os]
  | d + 1 => by rw [os, List.length_set, os_len B a M d]

/-- the choices lie within -/
def Bok (B : List (List Int)) (N M : Nat) : Prop := B.length = M ∧ ∀ i, i < M → (B.getD i []).length = N ∧ (0 < i → ∀ k, k < N → 0 ≤ (B.getD i []).getD k 0 ∧ (B.getD i []).getD k 0 < (N : Int))
theorem ats_in {B : List (List Int)} {N M : Nat} (hB : Bok B N M) {a : Int} (h0 : 0 ≤ a) (h1 : a < (N : Int)) : ∀ d, d < M → 0 ≤ ats B a M d ∧ ats B a M d < (N : Int)
  | 0, _ => ⟨h0, h1⟩
  | d + 1, hd => by
    obtain ⟨i0, i1⟩ := ats_in hB h0 h1 d (by omega)
    exact (hB.2 (M - 1 - d) (by omega)).2 (by omega) _ (by omega)

theorem way_impl {B : List (List Int)} {N M : Nat} (hB : Bok B N M) (hM : 1 ≤ M) (hM2 : M ≤ 64) {a : Int} (h0 : 0 ≤ a) (h1 : a < (N : Int)) (v4 : Int) (v5 : List (List Int)) (v6 : Int) (v7 : Bool) :
    W_impl_MatchTrack_4 R (B, a, List.replicate M 0, (M : Int) - 1, v4, v5, v6, v7, ()) = some (v4, os B a M M, v5, v6, v7, ()) := by
  have e0 : (M : Int) - 1 = (M : Int) - 1 - ((0 : Nat) : Int) := by omega
  rw [e0]
  unfold W_impl_MatchTrack_4
  refine runW_count (n := M) (mk := fun d => (B, ats B a M d, os B a M d, (M : Int) - 1 - (d : Int), v4, v5, v6, v7, ())) (fun d hd => ?_) ?_
  · show st_impl_MatchTrack_4 R B (ats B a M d) (os B a M d) ((M : Int) - 1 - (d : Int)) v4 v5 v6 v7 = _
    obtain ⟨a0, a1⟩ := ats_in hB h0 h1 d hd
    obtain ⟨b1, b2⟩ := hB
    have b3 := (b2 (M - 1 - d) (by omega)).1
    have e1 : (M : Int) - 1 - (d : Int) = ((M - 1 - d : Nat) : Int) := by omega
    have e2 : IntKind.i64.wrap (((M - 1 - d : Nat) : Int) - 1) = (M : Int) - 1 - ((d + 1 : Nat) : Int) := by rw [wrap_small (by omega) (by omega)]; omega
    have ol := os_len B a M d
    unfold st_impl_MatchTrack_4
    rw [e1, e2, Int.toNat_natCast, List.length_set, ol, b1, b3]
    rw [dt (show ((M - 1 - d : Nat) : Int) ≥ 0 by omega), dt (show ((M - 1 - d : Nat) : Int) < (M : Int) by omega), blt_tt (show M - 1 - d < M by omega), dt a0, dt a1]
    simp only [Nat.beq_refl]; rfl
  · show st_impl_MatchTrack_4 R B (ats B a M M) (os B a M M) ((M : Int) - 1 - (M : Int)) v4 v5 v6 v7 = _
    unfold st_impl_MatchTrack_4
    rw [df (show ¬ (M : Int) - 1 - (M : Int) ≥ 0 by omega)]
    simp only [Nat.beq_refl]; rfl

theorem way_spec {B : List (List Int)} {N M : Nat} (hB : Bok B N M) (hM : 1 ≤ M) (hM2 : M ≤ 64) {a : Int} (h0 : 0 ≤ a) (h1 : a < (N : Int)) (v4 : Int) (v5 : List (List Int)) (v6 : Int) (v7 : Bool) :
    W_spec_MatchTrack_6 R (B.tail, a, List.replicate M 0, (M : Int) - 1, v4, v5, v6, v7, ()) = some (v4, os B a M M, v5, v6, v7, ()) := by
  have e0 : (M : Int) - 1 = (M : Int) - 1 - ((0 : Nat) : Int) := by omega
  rw [e0]
  have hz : (B.tail, a, List.replicate M (0 : Int), (M : Int) - 1 - ((0 : Nat) : Int), v4, v5, v6, v7, ()) = (fun d : Nat => (B.tail, if d < M then ats B a M d else ats B a M (M - 1), os B a M d, (M : Int) - 1 - (d : Int), v4, v5, v6, v7, ())) 0 := by
    show _ = (B.tail, if 0 < M then ats B a M 0 else ats B a M (M - 1), os B a M 0, (M : Int) - 1 - ((0 : Nat) : Int), v4, v5, v6, v7, ())
    rw [if_pos (show 0 < M by omega)]; rfl
  rw [hz]
  unfold W_spec_MatchTrack_6
  refine runW_count (n := M) (mk := fun d => (B.tail, if d < M then ats B a M d else ats B a M (M - 1), os B a M d, (M : Int) - 1 - (d : Int), v4, v5, v6, v7, ())) (o := (v4, os B a M M, v5, v6, v7, ())) (fun d hd => ?_) ?_
  · show st_spec_MatchTrack_6 R B.tail (if d < M then ats B a M d else ats B a M (M - 1)) (os B a M d) ((M : Int) - 1 - (d : Int)) v4 v5 v6 v7 = _
    obtain ⟨a0, a1⟩ := ats_in hB h0 h1 d hd
    obtain ⟨b1, b2⟩ := hB
    have b3 := (b2 (M - 1 - d) (by omega)).1
    have e1 : (M : Int) - 1 - (d : Int) = ((M - 1 - d : Nat) : Int) := by omega
    have ol := os_len B a M d
    rw [if_pos hd]
    by_cases c : d + 1 < M
    · have e2 : IntKind.i64.wrap (((M - 1 - d : Nat) : Int) - 1) = ((M - 1 - (d + 1) : Nat) : Int) := by rw [wrap_small (by omega) (by omega)]; omega
      have e3 : (M : Int) - 1 - ((d + 1 : Nat) : Int) = ((M - 1 - (d + 1) : Nat) : Int) := by omega
      have tl : B.tail.length = M - 1 := by rw [List.length_tail, b1]
      have te : B.tail.getD (M - 1 - (d + 1)) [] = B.getD (M - 1 - d) [] := by
        rw [List.getD_eq_getElem?_getD, List.getElem?_tail, List.getD_eq_getElem?_getD]
        have : M - 1 - (d + 1) + 1 = M - 1 - d := by omega
        rw [this]
      unfold st_spec_MatchTrack_6
      simp only [if_pos c, e3]
      rw [e1, e2, Int.toNat_natCast, Int.toNat_natCast, List.length_set, ol, tl, te, b3]
      rw [dt (show ((M - 1 - d : Nat) : Int) ≥ 0 by omega), dt (show ((M - 1 - d : Nat) : Int) < (M : Int) by omega), blt_tt (show M - 1 - d < M by omega), dt a0, dt a1, dt (show ((M - 1 - d : Nat) : Int) > 0 by omega), dt (show 0 ≤ ((M - 1 - (d + 1) : Nat) : Int) by omega), dt (show ((M - 1 - (d + 1) : Nat) : Int) < ((M - 1 : Nat) : Int) by omega), blt_tt (show M - 1 - (d + 1) < M - 1 by omega)]
      simp only [Nat.beq_refl]; rfl
    · have e2 : IntKind.i64.wrap (((M - 1 - d : Nat) : Int) - 1) = (M : Int) - 1 - ((d + 1 : Nat) : Int) := by rw [wrap_small (by omega) (by omega)]; omega
      have e4 : d = M - 1 := by omega
      unfold st_spec_MatchTrack_6
      simp only [if_neg c]
      rw [e1, e2, Int.toNat_natCast, List.length_set, ol]
      rw [dt (show ((M - 1 - d : Nat) : Int) ≥ 0 by omega), dt (show ((M - 1 - d : Nat) : Int) < (M : Int) by omega), blt_tt (show M - 1 - d < M by omega), df (show ¬ ((M - 1 - d : Nat) : Int) > 0 by omega)]
      simp only [Nat.beq_refl]
      subst e4; rfl
  · show st_spec_MatchTrack_6 R B.tail (if M < M then ats B a M M else ats B a M (M - 1)) (os B a M M) ((M : Int) - 1 - (M : Int)) v4 v5 v6 v7 = _
    unfold st_spec_MatchTrack_6
    rw [df (show ¬ (M : Int) - 1 - (M : Int) ≥ 0 by omega)]
    simp only [Nat.beq_refl]; rfl
end Go.Dv
