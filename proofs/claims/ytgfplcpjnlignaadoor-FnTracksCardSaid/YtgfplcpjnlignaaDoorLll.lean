/- Places that were packed are unpacked. -/
import Derived.Test.YtgfplcpjnlignaaDoorLlk

set_option linter.unusedSimpArgs false
set_option linter.unusedVariables false
namespace Go.Dv
open Go.Cv

/-- a place of steps -/
def Gp (p : Nat × Nat) : Prop := ∃ n e : Int, -4194304 ≤ n ∧ n ≤ 4194304 ∧ -8388608 ≤ e ∧ e < 8388608 ∧ p = (R.bin .quo .f32 (R.ofi .f32 n) 1266679808, R.bin .quo .f32 (R.ofi .f32 e) 1266679808)
theorem gp_steps {p : Nat × Nat} (h : Gp p) : ∃ n e : Int, small n ∧ small e ∧ p_impl_StepsOf R p.1 p.2 = (n, e, true) ∧ p_impl_PlaceOfSteps R n e = (p.1, p.2, true) ∧ p_impl_ValidPlace R p.1 p.2 = true := by
  obtain ⟨n, e, h1, h2, h3, h4, rfl⟩ := h
  have s1 := st_of (n := n) (by omega)
  have s2 := st_of (n := e) (by omega)
  refine ⟨n, e, ⟨by omega, by omega⟩, ⟨by omega, by omega⟩, (stepsOf_st s1 s2 h1 h2 h3 h4).1, place_st h1 h2 h3 h4, valid_st s1 s2 h1 h2 h3 h4⟩
theorem gp_of {n e : Int} {P : Nat × Nat × Bool} (h : p_impl_PlaceOfSteps R n e = P) (hP : P.2.2 = true) : Gp (P.1, P.2.1) := by
  unfold p_impl_PlaceOfSteps p_impl_within at h
  by_cases a1 : Int.negSucc 4194303 ≤ n
  · by_cases a2 : n ≤ 4194304
    · by_cases a3 : Int.negSucc 8388607 ≤ e
      · by_cases a4 : e ≤ 8388607
        · rw [dt a1, dt a2, dt a3, dt a4] at h
          rw [← h]
          exact ⟨n, e, by omega, by omega, by omega, by omega, rfl⟩
        · rw [dt a1, dt a2, dt a3, df a4] at h
          rw [← h] at hP; cases hP
      · rw [dt a1, dt a2, df a3] at h
        rw [← h] at hP; cases hP
    · rw [dt a1, df a2] at h
      rw [← h] at hP; cases hP
  · rw [df a1] at h
    rw [← h] at hP; cases hP

def Gps (l : List (Nat × Nat)) : Prop := ∀ p ∈ l, Gp p
theorem upk_gps : ∀ (k : Nat) (r : List UInt8) (acc : List (Nat × Nat)) (x y : Int) (l : List (Nat × Nat)), Gps acc → upk k r acc x y = some l → Gps l ∧ l ≠ [] ∧ (acc.length ≤ 64 → l.length ≤ 64)
  | 0, _, _, _, _, _, _, h => by cases h
  | k + 1, r, acc, x, y, l, ha, h => by
    rw [upk] at h
    by_cases hc : r = [] ∧ acc ≠ []
    · rw [if_pos hc] at h; cases h; exact ⟨ha, hc.2, fun h => h⟩
    · rw [if_neg hc] at h
      cases h1 : rdN 5 r 0 0 with
      | none => rw [h1] at h; cases h
      | some q =>
        obtain ⟨n1, c1⟩ := q
        rw [h1] at h
        simp only at h
        cases h2 : rdN 5 (r.drop c1) 0 0 with
        | none => rw [h2] at h; cases h
        | some q2 =>
          obtain ⟨n2, c2⟩ := q2
          rw [h2] at h
          simp only at h
          generalize hp : p_impl_PlaceOfSteps R (IntKind.i64.wrap (x + unz n1)) (IntKind.i64.wrap (y + unz n2)) = P at *
          by_cases hP : P.2.2 = true
          · rw [if_pos hP] at h
            by_cases h64 : acc.length = 64
            · rw [if_pos h64] at h; cases h
            · rw [if_neg h64] at h
              obtain ⟨g1, g2, g3⟩ := upk_gps k _ _ _ _ l (fun p hm => by
                rcases List.mem_append.1 hm with hm | hm
                · exact ha p hm
                · rw [List.mem_singleton] at hm; rw [hm]; exact gp_of hp hP) h
              exact ⟨g1, g2, fun hl => g3 (by simp; omega)⟩
          · rw [if_neg hP] at h; cases h

/-- the bytes of a list of numbers -/
def bts (l : List Int) : List UInt8 := l.map (fun x => UInt8.ofNat x.toNat)
theorem bts_app (a b : List Int) : bts (a ++ b) = bts a ++ bts b := by unfold bts; rw [List.map_append]
theorem bts_data (l : List Int) : (p_bytes l).data.toList = bts l := by unfold p_bytes bts; rfl
/-- what was packed from the i-th place on -/
def sfx (l : List (Nat × Nat)) : Nat → Nat → List Int
  | 0, _ => []
  | m + 1, i => nenc (zig ((stp l i).1 - pka l i)) ++ (nenc (zig ((stp l i).2.1 - pkb l i)) ++ sfx l m (i + 1))
theorem pk_sfx (l : List (Nat × Nat)) : ∀ m i, pk l (i + m) = pk l i ++ sfx l m i
  | 0, i => by rw [sfx, List.append_nil]; rfl
  | m + 1, i => by
    have e : i + (m + 1) = (i + 1) + m := by omega
    rw [e, pk_sfx l m (i + 1), pk, sfx]
    simp only [List.append_assoc]

theorem upk_sfx (l : List (Nat × Nat)) (hg : Gps l) (hl : l.length ≤ 64) : ∀ (m i k : Nat), i + m = l.length → (i = 0 → 0 < m) → m < k → upk k (bts (sfx l m i)) (l.take i) (pka l i) (pkb l i) = some l
  | 0, i, k, hi, h0, hk => by
    obtain ⟨k, rfl⟩ : ∃ k', k = k' + 1 := ⟨k - 1, by omega⟩
    have ht : l.take i = l := List.take_of_length_le (by omega)
    have hne : l ≠ [] := fun h => by rw [h] at hi; simp at hi; exact absurd (h0 hi) (by omega)
    rw [upk, ht, if_pos ⟨rfl, hne⟩]
  | m + 1, i, k, hi, h0, hk => by
    obtain ⟨k, rfl⟩ : ∃ k', k = k' + 1 := ⟨k - 1, by omega⟩
    have hst : ∀ j, j < l.length → ∃ n e : Int, small n ∧ small e ∧ stp l j = (n, e, true) ∧ p_impl_PlaceOfSteps R n e = ((l.getD j (0, 0)).1, (l.getD j (0, 0)).2, true) := fun j hj => by
      have hm : l.getD j (0, 0) ∈ l := by rw [getD_lt hj]; exact List.getElem_mem hj
      obtain ⟨n, e, a1, a2, a3, a4, a5⟩ := gp_steps (hg _ hm)
      exact ⟨n, e, a1, a2, by unfold stp; rw [← stepsOf_eq]; exact a3, a4⟩
    obtain ⟨n, e, ⟨b1, b2⟩, ⟨b3, b4⟩, b5, b6⟩ := hst i (by omega)
    have hpa : small (pka l i) ∧ small (pkb l i) := by
      cases i with
      | zero => exact ⟨⟨by show (-16777216 : Int) ≤ 0; omega, by show (0 : Int) ≤ 16777216; omega⟩, ⟨by show (-16777216 : Int) ≤ 0; omega, by show (0 : Int) ≤ 16777216; omega⟩⟩
      | succ j =>
        obtain ⟨n', e', c1, c2, c3, c4⟩ := hst j (by omega)
        show small (stp l j).1 ∧ small (stp l j).2.1
        rw [c3]; exact ⟨c1, c2⟩
    obtain ⟨⟨p1, p2⟩, ⟨p3, p4⟩⟩ := hpa
    have hz1 : zig (n - pka l i) < 128 ^ 5 := by unfold zig; split <;> omega
    have hz2 : zig (e - pkb l i) < 128 ^ 5 := by unfold zig; split <;> omega
    have hne : bts (sfx l (m + 1) i) ≠ [] := fun h => by
      have := congrArg List.length h
      unfold sfx at this
      rw [bts_app, List.length_append, List.length_nil] at this
      have hn : 0 < (bts (nenc (zig ((stp l i).1 - pka l i)))).length := by unfold bts nenc; simp
      omega
    rw [upk, if_neg (fun h => hne h.1)]
    have r1 : rdN 5 (bts (sfx l (m + 1) i)) 0 0 = some (0 + zig (n - pka l i) * 2 ^ (7 * 0), 0 + (nenc (zig (n - pka l i))).length) := by
      unfold sfx
      rw [b5, bts_app]
      exact rdN_nenc 4 _ 0 0 _ hz1
    rw [r1]
    simp only [Nat.zero_add, Nat.mul_zero, Nat.pow_zero, Nat.mul_one]
    have hd1 : (bts (sfx l (m + 1) i)).drop (nenc (zig (n - pka l i))).length = bts (nenc (zig (e - pkb l i)) ++ sfx l m (i + 1)) := by
      rw [sfx, b5, bts_app]
      have : (nenc (zig (n - pka l i))).length = (bts (nenc (zig (n - pka l i)))).length := by unfold bts; rw [List.length_map]
      rw [this, List.drop_left]
    have r2 : rdN 5 (bts (nenc (zig (e - pkb l i)) ++ sfx l m (i + 1))) 0 0 = some (0 + zig (e - pkb l i) * 2 ^ (7 * 0), 0 + (nenc (zig (e - pkb l i))).length) := by
      rw [bts_app]
      exact rdN_nenc 4 _ 0 0 _ hz2
    rw [hd1, r2]
    simp only [Nat.zero_add, Nat.mul_zero, Nat.pow_zero, Nat.mul_one, unz_zig]
    have w1 : IntKind.i64.wrap (pka l i + (n - pka l i)) = n := by rw [wrap_small (by omega) (by omega)]; omega
    have w2 : IntKind.i64.wrap (pkb l i + (e - pkb l i)) = e := by rw [wrap_small (by omega) (by omega)]; omega
    rw [w1, w2, b6, if_pos rfl, if_neg (by rw [List.length_take]; omega)]
    have hd2 : (bts (sfx l (m + 1) i)).drop ((nenc (zig (n - pka l i))).length + (nenc (zig (e - pkb l i))).length) = bts (sfx l m (i + 1)) := by
      rw [← List.drop_drop, hd1, bts_app]
      have : (nenc (zig (e - pkb l i))).length = (bts (nenc (zig (e - pkb l i)))).length := by unfold bts; rw [List.length_map]
      rw [this, List.drop_left]
    rw [hd2]
    have ht : l.take i ++ [((l.getD i (0, 0)).1, (l.getD i (0, 0)).2)] = l.take (i + 1) := by
      rw [List.take_succ_eq_append_getElem (by omega), getD_lt (by omega)]
    simp only
    rw [ht]
    have e1 : n = pka l (i + 1) := by show n = (stp l i).1; rw [b5]
    have e2 : e = pkb l (i + 1) := by show e = (stp l i).2.1; rw [b5]
    rw [e1, e2]
    exact upk_sfx l hg hl m (i + 1) k (by omega) (by omega) (by omega)
end Go.Dv
