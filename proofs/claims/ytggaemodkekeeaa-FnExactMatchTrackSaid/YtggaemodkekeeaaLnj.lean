/- Matching: the program whole. -/
import Derived.Test.YtggaemodkekeeaaLni
import Derived.Test.YtggaemodkekeeaaWnd

set_option linter.unusedSimpArgs false
set_option linter.unusedVariables false
namespace Go.Dv
open Go.Cv

theorem dtt {p : Prop} {inst : Decidable p} (h : p) : @decide p inst = true := by cases inst with
  | isTrue _ => rfl
  | isFalse c => exact absurd h c
/-- the routes from all places -/
noncomputable def Hs (pl : List (Nat × Nat)) (rs : List Rd) (n : Nat) : List (List Int) := (List.range n).map fun (i : Nat) => p_impl_Net_routes R pl rs (i : Int)
theorem hs_len (pl : List (Nat × Nat)) (rs : List Rd) (n : Nat) : (Hs pl rs n).length = n := by simp [Hs]
theorem hs_succ (pl : List (Nat × Nat)) (rs : List Rd) (n : Nat) : Hs pl rs n ++ [p_impl_Net_routes R pl rs (n : Int)] = Hs pl rs (n + 1) := by simp [Hs, List.range_succ]
theorem hs_get (pl : List (Nat × Nat)) (rs : List Rd) {n i : Nat} (h : i < n) : (Hs pl rs n).getD i [] = p_impl_Net_routes R pl rs (i : Int) := by
  rw [getD_lt (by rw [hs_len]; exact h)]; simp [Hs]

def RoutesOk (pl : List (Nat × Nat)) (rs : List Rd) : Prop := ∀ f : Nat, f < pl.length → r_impl_Net_routes R pl rs (f : Int) = true ∧ r_spec_l07Longs R pl rs (f : Int) true = true ∧ p_impl_Net_routes R pl rs (f : Int) = p_spec_l07Longs R pl rs (f : Int) true ∧ (p_impl_Net_routes R pl rs (f : Int)).length = pl.length ∧ 0 ≤ (p_impl_Net_routes R pl rs (f : Int)).getD f 0
def MissOk (pl ls : List (Nat × Nat)) : Prop := ∀ k i, k < pl.length → i < ls.length → r_impl_missOf R (pl.getD k (0, 0)).1 (pl.getD k (0, 0)).2 (ls.getD i (0, 0)).1 (ls.getD i (0, 0)).2 = true ∧ r_spec_l07Off R (pl.getD k (0, 0)).1 (pl.getD k (0, 0)).2 (ls.getD i (0, 0)).1 (ls.getD i (0, 0)).2 = true ∧ p_spec_l07Off R (pl.getD k (0, 0)).1 (pl.getD k (0, 0)).2 (ls.getD i (0, 0)).1 (ls.getD i (0, 0)).2 = ms pl (ls.getD i (0, 0)) k ∧ 0 ≤ ms pl (ls.getD i (0, 0)) k ∧ ms pl (ls.getD i (0, 0)) k ≤ 70000

theorem hops_impl (pl : List (Nat × Nat)) (rs : List Rd) (hN : pl.length ≤ 64) (hR : RoutesOk pl rs) (v5 : List (Nat × Nat)) (v6 : Int) (v7 : List (List Int)) (v8 : Int) (v9 : Bool) :
    W_impl_MatchTrack_0 R ((), pl, rs, [], (pl.length : Int), 0, v5, v6, v7, v8, v9, ()) = some (v5, v6, (), pl, rs, Hs pl rs pl.length, v7, v8, v9, ()) := by
  unfold W_impl_MatchTrack_0
  refine runW_count (n := pl.length) (mk := fun i => ((), pl, rs, Hs pl rs i, (pl.length : Int), (i : Int), v5, v6, v7, v8, v9, ())) (fun i hi => ?_) ?_
  · show st_impl_MatchTrack_0 R pl rs (Hs pl rs i) (pl.length : Int) (i : Int) v5 v6 v7 v8 v9 = _
    unfold st_impl_MatchTrack_0
    rw [dt (show (i : Int) < (pl.length : Int) by omega), (hR i hi).1, hs_succ, hs_len, hs_len, wrap_succ (by omega), ble_of (show i + [p_impl_Net_routes R pl rs (i : Int)].length ≤ 1073741824 by simp; omega)]
    simp only [Nat.beq_refl]; rfl
  · show st_impl_MatchTrack_0 R pl rs (Hs pl rs pl.length) (pl.length : Int) (pl.length : Int) v5 v6 v7 v8 v9 = _
    unfold st_impl_MatchTrack_0
    rw [df (show ¬ (pl.length : Int) < (pl.length : Int) by omega)]
    simp only [Nat.beq_refl]; rfl

theorem hops_spec (pl : List (Nat × Nat)) (rs : List Rd) (hN : pl.length ≤ 64) (hR : RoutesOk pl rs) (v5 : List (Nat × Nat)) (v6 v7 : Int) (v8 : List (List Int)) (v9 : Int) (v10 : Bool) :
    W_spec_MatchTrack_0 R ((), pl, rs, [], (pl.length : Int), 0, v5, v6, v7, v8, v9, v10, ()) = some (v5, v6, (), pl, rs, v7, Hs pl rs pl.length, v8, v9, v10, ()) := by
  unfold W_spec_MatchTrack_0
  refine runW_count (n := pl.length) (mk := fun i => ((), pl, rs, Hs pl rs i, (pl.length : Int), (i : Int), v5, v6, v7, v8, v9, v10, ())) (fun i hi => ?_) ?_
  · show st_spec_MatchTrack_0 R pl rs (Hs pl rs i) (pl.length : Int) (i : Int) v5 v6 v7 v8 v9 v10 = _
    unfold st_spec_MatchTrack_0
    obtain ⟨_, r2, r3, _⟩ := hR i hi
    rw [dt (show (i : Int) < (pl.length : Int) by omega), r2, ← r3, hs_succ, hs_len, hs_len, wrap_succ (by omega), ble_of (show i + [p_impl_Net_routes R pl rs (i : Int)].length ≤ 1073741824 by simp; omega)]
    simp only [Nat.beq_refl]; rfl
  · show st_spec_MatchTrack_0 R pl rs (Hs pl rs pl.length) (pl.length : Int) (pl.length : Int) v5 v6 v7 v8 v9 v10 = _
    unfold st_spec_MatchTrack_0
    rw [df (show ¬ (pl.length : Int) < (pl.length : Int) by omega)]
    simp only [Nat.beq_refl]; rfl

theorem inn_lt (go : Bool) (H : List (List Int)) (s : List Int) (by_ : Int) (k : Nat) : ∀ n, -1 ≤ (inn go H s by_ k n).1 ∧ ((inn go H s by_ k n).1 < (n : Int))
  | 0 => ⟨by show (-1 : Int) ≤ -1; omega, by show (-1 : Int) < 0; omega⟩
  | n + 1 => by
    obtain ⟨h1, h2⟩ := inn_lt go H s by_ k n
    rw [inn]
    split
    · split
      · split
        · exact ⟨by show -1 ≤ (n : Int); omega, by show (n : Int) < ((n + 1 : Nat) : Int); omega⟩
        · split
          · exact ⟨by show -1 ≤ (n : Int); omega, by show (n : Int) < ((n + 1 : Nat) : Int); omega⟩
          · exact ⟨h1, by omega⟩
      · exact ⟨h1, by omega⟩
    · exact ⟨h1, by omega⟩
theorem inn_ge (H : List (List Int)) (s : List Int) (by_ : Int) (k j : Nat) (hj : 0 ≤ (H.getD j []).getD k 0) : ∀ n, j < n → 0 ≤ (inn true H s by_ k n).1
  | 0, h => by omega
  | n + 1, h => by
    rw [inn, if_pos rfl]
    split
    · split
      · show 0 ≤ (n : Int); omega
      · split
        · show 0 ≤ (n : Int); omega
        · omega
    · rename_i c
      rcases Nat.lt_or_ge j n with h1 | h1
      · exact inn_ge H s by_ k j hj n h1
      · have e : j = n := by omega
        subst e
        exact absurd hj c

theorem bf_get (H : List (List Int)) (by_ : Int) (pl ls : List (Nat × Nat)) : ∀ m i, i < m → (Bf H by_ pl ls m).getD i [] = frm (decide ((i : Int) > 0)) H (Smx H by_ pl ls i) by_ pl.length
  | 0, i, h => by omega
  | m + 1, i, h => by
    have hl := bf_len H by_ pl ls m
    rw [Bf, List.getD_eq_getElem?_getD]
    rcases Nat.lt_or_ge i m with h1 | h1
    · rw [List.getElem?_append_left (by omega), ← List.getD_eq_getElem?_getD]
      exact bf_get H by_ pl ls m i h1
    · have e : i = m := by omega
      subst e
      rw [List.getElem?_append_right (by omega), hl, Nat.sub_self]; rfl
theorem bf_ok (pl : List (Nat × Nat)) (rs : List Rd) (by_ : Int) (ls : List (Nat × Nat)) (hR : RoutesOk pl rs) (m : Nat) : Bok (Bf (Hs pl rs pl.length) by_ pl ls m) pl.length m := by
  refine ⟨bf_len _ _ _ _ _, fun i hi => ?_⟩
  rw [bf_get _ _ _ _ m i hi]
  refine ⟨frm_len _ _ _ _ _, fun h0 k hk => ?_⟩
  have e : (frm (decide ((i : Int) > 0)) (Hs pl rs pl.length) (Smx (Hs pl rs pl.length) by_ pl ls i) by_ pl.length).getD k 0 = (inn (decide ((i : Int) > 0)) (Hs pl rs pl.length) (Smx (Hs pl rs pl.length) by_ pl ls i) by_ k pl.length).1 := by
    rw [getD_lt (by rw [frm_len]; exact hk)]; simp [frm]
  rw [e, dt (show (i : Int) > 0 by omega)]
  refine ⟨inn_ge _ _ _ _ k ?_ _ hk, (inn_lt _ _ _ _ _ _).2⟩
  rw [hs_get pl rs hk]
  exact (hR k hk).2.2.2.2

theorem impl_whole (pl : List (Nat × Nat)) (rs : List Rd) (ls : List (Nat × Nat)) (by_ : Int) (hN1 : 1 ≤ pl.length) (hN : pl.length ≤ 64) (hM1 : 1 ≤ ls.length) (hM : ls.length ≤ 64) (hR : RoutesOk pl rs) (hQ : MissOk pl ls)
    (v1 : r_impl_ValidNet R pl rs = true) (v2 : p_impl_ValidNet R pl rs = true) (v3 : ((ls.all fun x => p_impl_ValidPlace R x.1 x.2) && (decide (1 ≤ ls.length) && decide (ls.length ≤ 64))) = true) (v4 : p_impl_within R by_ 0 1000000 = true) :
    r_impl_MatchTrack R pl rs ls by_ = true ∧ p_impl_MatchTrack R pl rs ls by_ = (os (Bf (Hs pl rs pl.length) by_ pl ls ls.length) (am (Smx (Hs pl rs pl.length) by_ pl ls ls.length) pl.length : Int) ls.length ls.length, (Smx (Hs pl rs pl.length) by_ pl ls ls.length).getD (am (Smx (Hs pl rs pl.length) by_ pl ls ls.length) pl.length) 0, true) := by
  have hH := hs_len pl rs pl.length
  have hr : ∀ j, j < pl.length → ((Hs pl rs pl.length).getD j []).length = pl.length := fun j hj => by rw [hs_get pl rs hj]; exact (hR j hj).2.2.2.1
  have hB := bf_ok pl rs by_ ls hR ls.length
  have hS := sm_len (Hs pl rs pl.length) by_ pl ls ls.length
  have e0 : c0_impl_MatchTrack R pl rs ls by_ = some (ls, by_, (), pl, rs, Hs pl rs pl.length, [], 0, false, ()) := hops_impl pl rs hN hR ls by_ [] 0 false
  have hw1 := in1_run by_ (Hs pl rs pl.length) pl ls rs ls [] 0 false hN hM hH hr (fun k i hk hi => (hQ k i hk hi).1)
  generalize Hs pl rs pl.length = H at *
  have e1 : c1_impl_MatchTrack R pl rs ls by_ = some (ls, Bf H by_ pl ls ls.length, Smx H by_ pl ls ls.length, [], 0, false, ()) := by
    unfold c1_impl_MatchTrack
    rw [e0]
    simp only [Option.getD_some, Int.toNat_natCast]
    exact hw1
  generalize Bf H by_ pl ls ls.length = B at *
  generalize Smx H by_ pl ls ls.length = S at *
  obtain ⟨m1, m2⟩ := min_eq S (by omega) (by omega)
  obtain ⟨i1, i2⟩ := index_eq S (by omega) (by omega)
  have e2 : c2_impl_MatchTrack R pl rs ls by_ = S.getD (am S pl.length) 0 := by
    unfold c2_impl_MatchTrack
    rw [e1]
    exact m2.trans (by rw [hS])
  rw [hS] at i1 i2
  have e3 : c3_impl_MatchTrack R pl rs ls by_ = (am S pl.length : Int) := by
    unfold c3_impl_MatchTrack
    rw [e1, e2]
    exact i2
  have ha : am S pl.length < pl.length := by
    obtain ⟨m, hm⟩ : ∃ m, pl.length = m + 1 := ⟨pl.length - 1, by omega⟩
    have := am_lt S m
    rw [hm]; exact this
  have e4 : c4_impl_MatchTrack R pl rs ls by_ = some (S.getD (am S pl.length) 0, os B (am S pl.length : Int) ls.length ls.length, [], 0, false, ()) := by
    have hw := way_impl hB hM1 hM (a := (am S pl.length : Int)) (by omega) (by omega) (S.getD (am S pl.length) 0) [] 0 false
    unfold c4_impl_MatchTrack
    rw [e1, e3]
    simp only [Option.getD_some, Int.toNat_natCast]
    rw [wrap_small (by omega) (by omega)]
    exact hw
  unfold r_impl_MatchTrack p_impl_MatchTrack
  rw [v1, v2, v3, v4, e0, e1, e2, e3, e4]
  simp only [Option.getD_some, Option.isSome_some, Int.toNat_natCast, Nat.beq_refl, List.length_replicate]
  rw [m1, i1, blt_tt (show am S pl.length < S.length by omega)]
  rw [dtt (show (pl.length : Int) ≤ (pl.length : Int) from Int.le_refl _), dtt (show (pl.length : Int) ≤ Int.ofNat 1073741824 by show (pl.length : Int) ≤ (1073741824 : Int); omega), dtt (show (ls.length : Int) ≤ (ls.length : Int) from Int.le_refl _), dtt (show (ls.length : Int) ≤ Int.ofNat 1073741824 by show (ls.length : Int) ≤ (1073741824 : Int); omega), dtt (show ls.length < 4611686018427387904 by omega), dtt (show 0 ≤ (am S pl.length : Int) by omega), dtt (show (am S pl.length : Int) < (S.length : Int) by omega)]
  exact ⟨rfl, rfl⟩
end Go.Dv
