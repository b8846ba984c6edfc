/- Shortest routes: both programs find the same. -/
import Derived.Test.YtggaemodkekeeaaLnd
import Derived.Test.YtggaemodkekeeaaLlf

set_option linter.unusedSimpArgs false
set_option linter.unusedVariables false
namespace Go.Dv
open Go.Cv

theorem mul_one64 : ∀ N : Fin 65, p_math_bits_Mul R 1 (N.val : Int) = (0, (N.val : Int)) := by decide +kernel

def half (N n : Nat) : List Int := List.replicate n (-1) ++ List.replicate (N - n) 0
theorem half_len {N n : Nat} (h : n ≤ N) : (half N n).length = N := by simp [half]; omega
theorem half_take {N n k : Nat} (h : n ≤ N) (hk : k ≤ n) : (half N n).take k = List.replicate k (-1) := by
  unfold half
  rw [List.take_append_of_le_length (by simpa using hk), List.take_replicate, Nat.min_eq_left hk]
theorem half_drop {N n k : Nat} (h : n ≤ k) (hk : k ≤ N) : (half N n).drop k = List.replicate (N - k) 0 := by
  unfold half
  rw [List.drop_append, List.drop_replicate, List.drop_replicate, List.length_replicate]
  have e1 : n - k = 0 := by omega
  have e2 : N - n - (k - n) = N - k := by omega
  rw [e1, e2]; rfl

theorem rep_run (N : Nat) (hN : N ≤ 64) : ∀ (d n : Nat), n + d = N → 1 ≤ n → W_slices_Repeat_int64_int64_0 R (half N n, (n : Int), (), ()) = some (List.replicate N (-1), (), ()) := by
  intro d
  induction d using Nat.strongRecOn with
  | ind d ih =>
    intro n hn h1
    have hl := half_len (N := N) (n := n) (by omega)
    rcases Nat.eq_zero_or_pos d with h0 | h0
    · have : n = N := by omega
      subst this
      have e : half n n = List.replicate n (-1) := by unfold half; rw [Nat.sub_self]; simp
      refine runW_out (x := (half n n, (n : Int), (), ())) ?_
      show st_slices_Repeat_int64_int64_0 R (half n n) (n : Int) = _
      unfold st_slices_Repeat_int64_int64_0
      rw [hl, df (show ¬ (n : Int) < (n : Int) by omega), e]
      simp only [Nat.beq_refl]; rfl
    · have hmin : Nat.min n (N - n) ≤ N - n := Nat.min_le_right _ _
      have hmin1 : Nat.min n (N - n) ≤ n := Nat.min_le_left _ _
      have hmin2 : 1 ≤ Nat.min n (N - n) := by
        rcases Nat.le_total n (N - n) with h | h
        · have : Nat.min n (N - n) = n := Nat.min_eq_left h
          omega
        · have : Nat.min n (N - n) = N - n := Nat.min_eq_right h
          omega
      generalize hk : Nat.min n (N - n) = k at *
      have t1 : ((some (n : Int)).getD 0).toNat = n := rfl
      have t2 : ((none : Option Int).getD ((N : Nat) : Int) - (some (n : Int)).getD 0).toNat = N - n := by show ((N : Int) - (n : Int)).toNat = N - n; omega
      have t3 : ((some (n : Int)).getD ((N : Nat) : Int) - Int.ofNat 0).toNat = n := by show ((n : Int) - 0).toNat = n; omega
      have t4 : (half N n).take n = List.replicate n (-1) := half_take (by omega) (Nat.le_refl _)
      have hst : st_slices_Repeat_int64_int64_0 R (half N n) (n : Int) = some (.inl (half N (n + k), ((n + k : Nat) : Int), (), ())) := by
        unfold st_slices_Repeat_int64_int64_0
        rw [hl, dt (show (n : Int) < (N : Int) by omega), t1, t2, t3, List.drop_zero, t4, List.length_replicate, hk, List.take_replicate, Nat.min_eq_left hmin1, half_drop (by omega) (by omega)]
        have e : List.replicate n (-1 : Int) ++ List.replicate k (-1) ++ List.replicate (N - (n + k)) 0 = half N (n + k) := by
          unfold half; rw [List.replicate_append_replicate]
        rw [e, half_len (by omega)]
        rw [dt (show 0 ≤ (some (n : Int)).getD 0 by show (0 : Int) ≤ (n : Int); omega), dt (show (some (n : Int)).getD 0 ≤ none.getD ((N : Nat) : Int) by show (n : Int) ≤ (N : Int); omega), dt (show none.getD ((N : Nat) : Int) ≤ ((N : Nat) : Int) from Int.le_refl _)]
        rw [dt (show Int.ofNat 0 ≤ (some (n : Int)).getD ((N : Nat) : Int) by show (0 : Int) ≤ (n : Int); omega), dt (show (some (n : Int)).getD ((N : Nat) : Int) ≤ ((N : Nat) : Int) by show (n : Int) ≤ (N : Int); omega)]
        rw [ble_of (show 0 + n ≤ N by omega), ble_of (show n + (N - n) ≤ N by omega), wrap_small (by omega) (by omega)]
        simp only [Nat.beq_refl]
        have e2 : (n : Int) + (k : Int) = ((n + k : Nat) : Int) := by omega
        rw [e2]; rfl
      refine (runW_on (x := (half N n, (n : Int), (), ())) hst).trans ?_
      exact ih (N - (n + k)) (by omega) (n + k) (by omega) (by omega)

theorem rep_eq (N : Nat) (h1 : 1 ≤ N) (h2 : N ≤ 64) : p_slices_Repeat_int64_int64 R [Int.negSucc 0] (N : Int) = List.replicate N (-1) ∧ r_slices_Repeat_int64_int64 R [Int.negSucc 0] (N : Int) = true := by
  have w1 : IntKind.u64.wrap (([Int.negSucc 0] : List Int).length : Int) = 1 := by decide
  have w2 : IntKind.u64.wrap (N : Int) = (N : Int) := wrapu (by omega) (by omega)
  have hm := mul_one64 ⟨N, by omega⟩
  have e0 : c0_slices_Repeat_int64_int64 R [Int.negSucc 0] (N : Int) = (0, (N : Int)) := by unfold c0_slices_Repeat_int64_int64; rw [w1, w2]; exact hm
  have w3 : IntKind.i64.wrap (N : Int) = (N : Int) := wrap_small (by omega) (by omega)
  have hmin : Nat.min (([Int.negSucc 0] : List Int).length) N = 1 := by
    show Nat.min 1 N = 1
    exact Nat.min_eq_left h1
  have hl : List.take 0 (List.replicate N (0 : Int)) ++ List.take 1 [Int.negSucc 0] ++ List.drop (0 + 1) (List.replicate N (0 : Int)) = half N 1 := by
    rw [List.drop_replicate]; rfl
  have e1 : c1_slices_Repeat_int64_int64 R [Int.negSucc 0] (N : Int) = some (List.replicate N (-1), (), ()) := by
    unfold c1_slices_Repeat_int64_int64
    rw [e0, w3, Int.toNat_natCast, List.length_replicate, hmin, hl]
    exact rep_run N h2 (N - 1) 1 (by omega) (Nat.le_refl _)
  unfold p_slices_Repeat_int64_int64 r_slices_Repeat_int64_int64
  rw [e0, e1, w3, Int.toNat_natCast, List.length_replicate, hmin, hl, half_len h1, df (show ¬ (N : Int) < 0 by omega), dt (show 0 ≤ (N : Int) by omega), dt (show (N : Int) ≤ (N : Int) from Int.le_refl _), dt (show (N : Int) ≤ Int.ofNat 1073741824 by show (N : Int) ≤ (1073741824 : Int); omega), df (show ¬ (N : Int) > 9223372036854775807 by omega)]
  simp only [Option.getD_some, Option.isSome_some, Nat.beq_refl]
  exact ⟨trivial, rfl⟩

theorem build_spec (pl : List (Nat × Nat)) (rs : List Rd) (hN : pl.length ≤ 64) (f : Int) : c0_spec_l07Longs R pl rs f true = some ((pl, rs), f, true, List.replicate pl.length (-1), (), ()) := by
  refine runW_count (n := pl.length) (step := fun x => st_spec_l07Longs_0 R x.1 x.2.1 x.2.2.1 x.2.2.2.1.1 x.2.2.2.1.2 x.2.2.2.2.1 x.2.2.2.2.2.1) (mk := fun i => (List.replicate i (-1), (pl.length : Int), (i : Int), (pl, rs), f, true, (), ())) (o := ((pl, rs), f, true, List.replicate pl.length (-1), (), ())) (fun i hi => ?_) ?_
  · show st_spec_l07Longs_0 R (List.replicate i (-1)) (pl.length : Int) (i : Int) pl rs f true = _
    unfold st_spec_l07Longs_0
    rw [wrap_succ (by omega), dt (show (i : Int) < (pl.length : Int) by omega), List.length_replicate, ble_of (show i + 1 ≤ 1073741824 by omega)]
    have e : List.replicate i (-1 : Int) ++ [Int.negSucc 0] = List.replicate (i + 1) (-1) := by rw [List.replicate_succ']; rfl
    rw [e, List.length_replicate]
    simp only [Nat.beq_refl]; rfl
  · show st_spec_l07Longs_0 R (List.replicate pl.length (-1)) (pl.length : Int) (pl.length : Int) pl rs f true = _
    unfold st_spec_l07Longs_0
    rw [df (show ¬ (pl.length : Int) < (pl.length : Int) by omega)]
    simp only [Nat.beq_refl]; rfl

theorem ng_rep : ∀ n, ng (List.replicate n (-1)) = n
  | 0 => rfl
  | n + 1 => by
    show ng1 (-1) + ng (List.replicate n (-1)) = n + 1
    rw [ng_rep n]
    have : ng1 (-1) = 1 := rfl
    omega

theorem routes_eq (pl : List (Nat × Nat)) (rs : List Rd) (h1 : 1 ≤ pl.length) (h2 : pl.length ≤ 64) (hl : rs.length ≤ 1000) (hr : RdsIn rs pl.length) (f : Nat) (hf : f < pl.length) :
    r_impl_Net_routes R pl rs (f : Int) = true ∧ r_spec_l07Longs R pl rs (f : Int) true = true ∧ p_impl_Net_routes R pl rs (f : Int) = p_spec_l07Longs R pl rs (f : Int) true ∧ (p_impl_Net_routes R pl rs (f : Int)).length = pl.length ∧ 0 ≤ (p_impl_Net_routes R pl rs (f : Int)).getD f 0 := by
  obtain ⟨q1, q2⟩ := rep_eq pl.length h1 h2
  have e0 : c0_impl_Net_routes R pl rs (f : Int) = List.replicate pl.length (-1) := q1
  have hb := build_spec pl rs h2 (f : Int)
  have hL : Lg ((List.replicate pl.length (-1 : Int)).set f 0) := fun i hi => by
    have hi : i < pl.length := by simpa using hi
    have g1 := ng_set (List.replicate pl.length (-1)) f 0 (by simpa using hf)
    have hgd : ∀ j, j < pl.length → (List.replicate pl.length (-1 : Int)).getD j 0 = -1 := fun j hj => by
      rw [getD_lt (by simpa using hj), List.getElem_replicate]
    rw [ng_rep, hgd f hf] at g1
    have n1 : ng1 (-1) = 1 := rfl
    have n0 : ng1 0 = 0 := rfl
    rw [getD_set _ _ _ _ (by simpa using hf), hgd i hi]
    split <;> omega
  obtain ⟨z, z1, z2, z3, z4⟩ := loops_end pl hl (mu ((List.replicate pl.length (-1 : Int)).set f 0)) ((List.replicate pl.length (-1)).set f 0) true (by rw [List.length_set, List.length_replicate]; exact hr) hL (Nat.le_refl _)
  rw [List.length_set, List.length_replicate] at z1
  have e1 : c1_impl_Net_routes R pl rs (f : Int) = some (z, (), ()) := by unfold c1_impl_Net_routes; rw [e0]; exact z3
  have e2 : c1_spec_l07Longs R pl rs (f : Int) true = some (z, (), ()) := by unfold c1_spec_l07Longs; rw [hb]; exact z4
  unfold r_impl_Net_routes r_spec_l07Longs p_impl_Net_routes p_spec_l07Longs
  rw [e0, e1, e2, hb, q2]
  simp only [Option.getD_some, Option.isSome_some, List.length_set, List.length_replicate, Nat.beq_refl, Int.toNat_natCast]
  rw [blt_tt hf]
  refine ⟨?_, ?_, trivial, z1, z2 f (by rw [getD_set _ _ _ _ (by simpa using hf), if_pos rfl]; exact Int.le_refl _)⟩
  · rw [dt (show 0 ≤ (f : Int) by omega), dt (show (f : Int) < (pl.length : Int) by omega)]; rfl
  · rw [dt (show 0 ≤ (f : Int) by omega), dt (show (f : Int) < (pl.length : Int) by omega)]; rfl
end Go.Dv
