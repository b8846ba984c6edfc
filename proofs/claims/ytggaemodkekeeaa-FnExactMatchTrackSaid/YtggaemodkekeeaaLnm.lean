/- The plain law of matching. -/
import Derived.Test.YtggaemodkekeeaaLnl
import Derived.Test.YtggaemodkekeeaaLlf
import Derived.Test.YtggaemodkekeeaaWni

set_option linter.unusedSimpArgs false
set_option linter.unusedVariables false
namespace Go.Dv
open Go.Cv

/-! ### roads copied, compared and marked -/
theorem set_stepR (L : List Rd) (i : Nat) (hi : i < L.length) (v : Rd) (hv : L[i] = v) : (L.take i ++ List.replicate (L.length - i) rd0).set i v = L.take (i + 1) ++ List.replicate (L.length - (i + 1)) rd0 := by
  have hlen : (L.take i).length = i := by rw [List.length_take]; omega
  have e : L.length - i = (L.length - (i + 1)) + 1 := by omega
  rw [e, List.replicate_succ, List.set_append, if_neg (by omega), hlen, Nat.sub_self]
  show L.take i ++ (v :: List.replicate (L.length - (i + 1)) rd0) = _
  rw [List.take_add_one, List.getElem?_eq_getElem hi, hv, List.append_assoc]; rfl

theorem toRoadS_eq (l : List Rd) (hl : l.length ≤ 1048576) : p_laws_toRoadS R l = l ∧ r_laws_toRoadS R l = true := by
  have hw : c0_laws_toRoadS R l = some (l, (), ()) := by
    have e0 : (l, List.replicate (l.length : Int).toNat ((0 : Int), (0 : Int), (0 : Int)), (0 : Int), (), ()) = (fun i : Nat => (l, l.take i ++ List.replicate (l.length - i) rd0, (i : Int), (), ())) 0 := rfl
    unfold c0_laws_toRoadS
    rw [e0]
    unfold W_laws_toRoadS_0
    refine runW_count (n := l.length) (mk := fun i : Nat => (l, l.take i ++ List.replicate (l.length - i) rd0, (i : Int), (), ())) (fun i hi => ?_) ?_
    · show st_laws_toRoadS_0 R l (l.take i ++ List.replicate (l.length - i) rd0) (i : Int) = _
      have hl1 : (l.take i ++ List.replicate (l.length - i) rd0).length = l.length := by simp; omega
      have hk : k0_laws_toRoadS_0 R l (l.take i ++ List.replicate (l.length - i) rd0) (i : Int) = l[i] := by
        have hg : l.getD (i : Int).toNat (0, 0, 0) = l[i] := by rw [Int.toNat_natCast, getD_lt hi]
        unfold k0_laws_toRoadS_0 p_laws_toRoad
        rw [hg]
      unfold st_laws_toRoadS_0
      rw [hk, wrap_succ (by omega), dt (show (i : Int) < (l.length : Int) by omega), dt (show 0 ≤ (i : Int) by omega), Int.toNat_natCast, List.length_set, hl1, dt (show (i : Int) < (l.length : Int) by omega), blt_tt hi]
      have hs := set_stepR l i hi l[i] rfl
      have hs' : (l.take i ++ List.replicate (l.length - i) rd0).set i (l[i].1, l[i].2.1, l[i].2.2) = l.take (i + 1) ++ List.replicate (l.length - (i + 1)) rd0 := hs
      rw [hs']
      simp only [Nat.beq_refl]; rfl
    · have e1 : l.take l.length ++ List.replicate (l.length - l.length) rd0 = l := by rw [Nat.sub_self, List.take_of_length_le (Nat.le_refl _)]; simp
      show st_laws_toRoadS_0 R l (l.take l.length ++ List.replicate (l.length - l.length) rd0) (l.length : Int) = _
      rw [e1]
      unfold st_laws_toRoadS_0
      rw [df (show ¬ (l.length : Int) < (l.length : Int) by omega)]
      simp only [Nat.beq_refl]; rfl
  unfold p_laws_toRoadS r_laws_toRoadS
  rw [hw, dt (show (l.length : Int) ≤ (l.length : Int) from Int.le_refl _), dt (show (l.length : Int) ≤ Int.ofNat 1073741824 by show (l.length : Int) ≤ (1073741824 : Int); omega), Nat.beq_refl]
  refine ⟨rfl, ?_⟩
  simp only [Option.getD_some, Option.isSome_some, Nat.beq_refl]; rfl

theorem toNet_eq (pl : List (Nat × Nat)) (rs : List Rd) (h1 : pl.length ≤ 1048576) (h2 : rs.length ≤ 1048576) : p_laws_toNet R pl rs = (pl, rs) ∧ r_laws_toNet R pl rs = true := by
  obtain ⟨t1, t2⟩ := toRoadS_eq rs h2
  have e0 : c0_laws_toNet R pl rs = rs := t1
  unfold p_laws_toNet r_laws_toNet
  rw [e0, t2, dt (show pl.length ≤ 1073741824 by omega)]
  refine ⟨rfl, ?_⟩
  simp only [Nat.beq_refl]; rfl

theorem eqRoadS_refl (l : List Rd) (hl : l.length ≤ 1048576) : p_laws_eqRoadS R l l = true ∧ r_laws_eqRoadS R l l = true := by
  have hw : c0_laws_eqRoadS R l l = some (.inr (false, ())) := by
    unfold c0_laws_eqRoadS W_laws_eqRoadS_0
    refine runW_count (n := l.length) (mk := fun i : Nat => (l, l, (i : Int), false, ())) (fun i hi => ?_) ?_
    · show st_laws_eqRoadS_0 R l l (i : Int) false = _
      have hq : p_laws_eqRoad R (l.getD (i : Int).toNat (0, 0, 0)).1 (l.getD (i : Int).toNat (0, 0, 0)).2.1 (l.getD (i : Int).toNat (0, 0, 0)).2.2 (l.getD (i : Int).toNat (0, 0, 0)).1 (l.getD (i : Int).toNat (0, 0, 0)).2.1 (l.getD (i : Int).toNat (0, 0, 0)).2.2 = true := by
        unfold p_laws_eqRoad
        simp
      unfold st_laws_eqRoadS_0
      rw [hq, wrap_succ (by omega), dt (show (i : Int) < (l.length : Int) by omega), dt (show 0 ≤ (i : Int) by omega)]; rfl
    · show st_laws_eqRoadS_0 R l l (l.length : Int) false = _
      unfold st_laws_eqRoadS_0
      rw [df (show ¬ (l.length : Int) < (l.length : Int) by omega)]; rfl
  have hne : ((l.length : Int) != (l.length : Int)) = false := by simp
  unfold p_laws_eqRoadS r_laws_eqRoadS
  rw [hw, hne]
  exact ⟨rfl, rfl⟩

theorem eqNet_refl (pl : List (Nat × Nat)) (rs : List Rd) (h1 : pl.length ≤ 1048576) (h2 : rs.length ≤ 1048576) : p_laws_eqNet R pl rs pl rs = true ∧ r_laws_eqNet R pl rs pl rs = true := by
  obtain ⟨e1, e2⟩ := eqRoadS_refl rs h2
  unfold p_laws_eqNet r_laws_eqNet
  rw [eqPlaceS_refl, e1, e2, dt (show pl.length < 4611686018427387904 by omega)]
  exact ⟨rfl, rfl⟩

theorem markPl_any (l : List (Nat × Nat)) (hl : l.length ≤ 1048576) (k : Nat) (hk : k ≤ 10000000) : r_laws_markPlaceS R l (k : Int) = true ∧ (p_laws_markPlaceS R l (k : Int)).1 = ((k + 2 * l.length : Nat) : Int) := by
  have key : ∀ (d i : Nat) (z : List (Nat × Nat)), z.length = l.length → i + d = l.length → ∃ z', W_laws_markPlaceS_0 R (z, ((k + 2 * i : Nat) : Int), (i : Int), 0, ()) = some (((k + 2 * l.length : Nat) : Int), 0, z', ()) := by
    intro d
    induction d with
    | zero =>
      intro i z hz hi
      have hi : i = l.length := by omega
      subst hi
      refine ⟨z, runW_out (x := (z, ((k + 2 * l.length : Nat) : Int), (l.length : Int), 0, ())) ?_⟩
      show st_laws_markPlaceS_0 R z ((k + 2 * l.length : Nat) : Int) (l.length : Int) 0 = _
      unfold st_laws_markPlaceS_0
      rw [hz, df (show ¬ (l.length : Int) < (l.length : Int) by omega)]; rfl
    | succ d ih =>
      intro i z hz hi
      have w1 : IntKind.i64.wrap (IntKind.i64.wrap (((k + 2 * i : Nat) : Int) + 1) + 1) = ((k + 2 * (i + 1) : Nat) : Int) := by
        rw [wrap_succ (by omega), wrap_succ (by omega)]; omega
      have w2 : IntKind.i64.wrap ((i : Int) + 1) = ((i + 1 : Nat) : Int) := wrap_succ (by omega)
      have hst : ∃ z', z'.length = l.length ∧ st_laws_markPlaceS_0 R z ((k + 2 * i : Nat) : Int) (i : Int) 0 = some (.inl (z', ((k + 2 * (i + 1) : Nat) : Int), ((i + 1 : Nat) : Int), 0, ())) := by
        refine ⟨_, ?_, by
          unfold st_laws_markPlaceS_0
          rw [w1, w2, Int.toNat_natCast, List.length_set, List.length_set, List.length_set, hz, dt (show (i : Int) < (l.length : Int) by omega), dt (show 0 ≤ (i : Int) by omega), blt_tt (show i < l.length by omega)]
          simp only [Nat.beq_refl]; rfl⟩
        rw [List.length_set, List.length_set, hz]
      obtain ⟨z', hz', hst⟩ := hst
      obtain ⟨z2, h2⟩ := ih (i + 1) z' hz' (by omega)
      exact ⟨z2, (runW_on (x := (z, ((k + 2 * i : Nat) : Int), (i : Int), 0, ())) hst).trans h2⟩
  obtain ⟨z, hz⟩ := key l.length 0 l rfl (by omega)
  have hc : c0_laws_markPlaceS R l (k : Int) = some (((k + 2 * l.length : Nat) : Int), 0, z, ()) := hz
  unfold r_laws_markPlaceS p_laws_markPlaceS
  rw [hc, Nat.beq_refl]
  exact ⟨rfl, rfl⟩

theorem markRd_any (l : List Rd) (hl : l.length ≤ 1048576) (k : Nat) (hk : k ≤ 10000000) : r_laws_markRoadS R l (k : Int) = true ∧ (p_laws_markRoadS R l (k : Int)).1 = ((k + 3 * l.length : Nat) : Int) := by
  have key : ∀ (d i : Nat) (z : List Rd), z.length = l.length → i + d = l.length → ∃ z', W_laws_markRoadS_0 R (z, ((k + 3 * i : Nat) : Int), (i : Int), 0, ()) = some (((k + 3 * l.length : Nat) : Int), 0, z', ()) := by
    intro d
    induction d with
    | zero =>
      intro i z hz hi
      have hi : i = l.length := by omega
      subst hi
      refine ⟨z, runW_out (x := (z, ((k + 3 * l.length : Nat) : Int), (l.length : Int), 0, ())) ?_⟩
      show st_laws_markRoadS_0 R z ((k + 3 * l.length : Nat) : Int) (l.length : Int) 0 = _
      unfold st_laws_markRoadS_0
      rw [hz, df (show ¬ (l.length : Int) < (l.length : Int) by omega)]; rfl
    | succ d ih =>
      intro i z hz hi
      have w1 : IntKind.i64.wrap (IntKind.i64.wrap (IntKind.i64.wrap (((k + 3 * i : Nat) : Int) + 1) + 1) + 1) = ((k + 3 * (i + 1) : Nat) : Int) := by
        rw [wrap_succ (by omega), wrap_succ (by omega), wrap_succ (by omega)]; omega
      have w2 : IntKind.i64.wrap ((i : Int) + 1) = ((i + 1 : Nat) : Int) := wrap_succ (by omega)
      have hst : ∃ z', z'.length = l.length ∧ st_laws_markRoadS_0 R z ((k + 3 * i : Nat) : Int) (i : Int) 0 = some (.inl (z', ((k + 3 * (i + 1) : Nat) : Int), ((i + 1 : Nat) : Int), 0, ())) := by
        refine ⟨_, ?_, by
          unfold st_laws_markRoadS_0
          rw [w1, w2]
          simp only [Int.toNat_natCast, List.length_set, hz, Nat.beq_refl]
          rw [dtt (show (i : Int) < (l.length : Int) by omega), dtt (show 0 ≤ (i : Int) by omega), blt_tt (show i < l.length by omega)]
          rfl⟩
        rw [List.length_set, List.length_set, List.length_set, hz]
      obtain ⟨z', hz', hst⟩ := hst
      obtain ⟨z2, h2⟩ := ih (i + 1) z' hz' (by omega)
      exact ⟨z2, (runW_on (x := (z, ((k + 3 * i : Nat) : Int), (i : Int), 0, ())) hst).trans h2⟩
  obtain ⟨z, hz⟩ := key l.length 0 l rfl (by omega)
  have hc : c0_laws_markRoadS R l (k : Int) = some (((k + 3 * l.length : Nat) : Int), 0, z, ()) := hz
  unfold r_laws_markRoadS p_laws_markRoadS
  rw [hc, Nat.beq_refl]
  exact ⟨rfl, rfl⟩

theorem markNet_any (pl : List (Nat × Nat)) (rs : List Rd) (h1 : pl.length ≤ 1048576) (h2 : rs.length ≤ 1048576) : r_laws_markNet R pl rs 1 = true ∧ (p_laws_markNet R pl rs 1).1 = ((1 + 2 * pl.length + 3 * rs.length : Nat) : Int) := by
  obtain ⟨a1, a2⟩ := markPl_any pl h1 1 (by omega)
  obtain ⟨b1, b2⟩ := markRd_any rs h2 (1 + 2 * pl.length) (by omega)
  have e0 : (c0_laws_markNet R pl rs 1).1 = ((1 + 2 * pl.length : Nat) : Int) := a2
  have a1' : r_laws_markPlaceS R pl 1 = true := a1
  unfold r_laws_markNet p_laws_markNet c1_laws_markNet
  rw [e0, a1', b1, b2, Nat.beq_refl, Nat.beq_refl]
  exact ⟨rfl, rfl⟩

/-! ### lists of whole numbers marked and compared -/
theorem eqI_refl (l : List Int) (hl : l.length ≤ 64) : p_laws_eqInt64S R l l = true ∧ r_laws_eqInt64S R l l = true := by
  have hw : c0_laws_eqInt64S R l l = some (.inr (false, ())) := by
    unfold c0_laws_eqInt64S W_laws_eqInt64S_0
    refine runW_count (n := l.length) (mk := fun i : Nat => (l, l, (i : Int), false, ())) (fun i hi => ?_) ?_
    · show st_laws_eqInt64S_0 R l l (i : Int) false = _
      have hq : (l.getD (i : Int).toNat 0 != l.getD (i : Int).toNat 0) = false := by simp
      unfold st_laws_eqInt64S_0
      rw [hq, wrap_succ (by omega), dt (show (i : Int) < (l.length : Int) by omega), dt (show 0 ≤ (i : Int) by omega)]; rfl
    · show st_laws_eqInt64S_0 R l l (l.length : Int) false = _
      unfold st_laws_eqInt64S_0
      rw [df (show ¬ (l.length : Int) < (l.length : Int) by omega)]; rfl
  have hne : ((l.length : Int) != (l.length : Int)) = false := by simp
  unfold p_laws_eqInt64S r_laws_eqInt64S
  rw [hw, hne]
  exact ⟨rfl, rfl⟩

/-- marks up to i -/
def mkI (l : List Int) : Nat → List Int
  | 0 => l
  | i + 1 => (mkI l i).set i ((i + 1 : Nat) : Int)
theorem mkI_len (l : List Int) : ∀ i, (mkI l i).length = l.length
  | 0 => rfl
  | i + 1 => by rw [mkI, List.length_set, mkI_len l i]
theorem mkI_get (l : List Int) : ∀ i j, j < i → i ≤ l.length → (mkI l i).getD j 0 = ((j + 1 : Nat) : Int)
  | 0, j, h, _ => by omega
  | i + 1, j, h, hl => by
    rw [mkI, getD_set _ _ _ _ (by rw [mkI_len]; omega)]
    by_cases c : j = i
    · subst c; rw [if_pos rfl]
    · rw [if_neg c]; exact mkI_get l i j (by omega) (by omega)
theorem markI_eq (l : List Int) (hl : l.length ≤ 64) : p_laws_markInt64S R l 1 = (((l.length + 1 : Nat) : Int), mkI l l.length) ∧ r_laws_markInt64S R l 1 = true := by
  have hw : c0_laws_markInt64S R l 1 = some (((l.length + 1 : Nat) : Int), 0, mkI l l.length, ()) := by
    have e0 : (l, (1 : Int), (0 : Int), (0 : Int), ()) = (fun i : Nat => (mkI l i, ((i + 1 : Nat) : Int), (i : Int), (0 : Int), ())) 0 := rfl
    unfold c0_laws_markInt64S
    rw [e0]
    unfold W_laws_markInt64S_0
    refine runW_count (n := l.length) (mk := fun i : Nat => (mkI l i, ((i + 1 : Nat) : Int), (i : Int), (0 : Int), ())) (fun i hi => ?_) ?_
    · show st_laws_markInt64S_0 R (mkI l i) ((i + 1 : Nat) : Int) (i : Int) 0 = _
      have w1 : IntKind.i64.wrap (((i + 1 : Nat) : Int) + 1) = ((i + 1 + 1 : Nat) : Int) := wrap_succ (by omega)
      have w2 : IntKind.i64.wrap ((i : Int) + 1) = ((i + 1 : Nat) : Int) := wrap_succ (by omega)
      unfold st_laws_markInt64S_0
      rw [w1, w2, Int.toNat_natCast, List.length_set, mkI_len, dt (show (i : Int) < (l.length : Int) by omega), dt (show 0 ≤ (i : Int) by omega), blt_tt hi]
      simp only [Nat.beq_refl]; rfl
    · show st_laws_markInt64S_0 R (mkI l l.length) ((l.length + 1 : Nat) : Int) (l.length : Int) 0 = _
      unfold st_laws_markInt64S_0
      rw [mkI_len, df (show ¬ (l.length : Int) < (l.length : Int) by omega)]; rfl
  unfold p_laws_markInt64S r_laws_markInt64S
  rw [hw, Nat.beq_refl]
  exact ⟨rfl, rfl⟩
theorem heldI_eq (l : List Int) (hl : l.length ≤ 64) : p_laws_heldInt64S R (mkI l l.length) 1 = ((l.length + 1 : Nat) : Int) ∧ r_laws_heldInt64S R (mkI l l.length) 1 = true := by
  have hw : c0_laws_heldInt64S R (mkI l l.length) 1 = some (.inr (((l.length + 1 : Nat) : Int), 0, ())) := by
    have e0 : (mkI l l.length, (1 : Int), (0 : Int), (0 : Int), ()) = (fun i : Nat => (mkI l l.length, ((i + 1 : Nat) : Int), (i : Int), (0 : Int), ())) 0 := rfl
    unfold c0_laws_heldInt64S
    rw [e0]
    unfold W_laws_heldInt64S_0
    refine runW_count (n := l.length) (mk := fun i : Nat => (mkI l l.length, ((i + 1 : Nat) : Int), (i : Int), (0 : Int), ())) (fun i hi => ?_) ?_
    · show st_laws_heldInt64S_0 R (mkI l l.length) ((i + 1 : Nat) : Int) (i : Int) 0 = _
      have w1 : IntKind.i64.wrap (((i + 1 : Nat) : Int) + 1) = ((i + 1 + 1 : Nat) : Int) := wrap_succ (by omega)
      have w2 : IntKind.i64.wrap ((i : Int) + 1) = ((i + 1 : Nat) : Int) := wrap_succ (by omega)
      have hq : ((mkI l l.length).getD i 0 != ((i + 1 : Nat) : Int)) = false := by rw [mkI_get l l.length i hi (Nat.le_refl _)]; simp
      unfold st_laws_heldInt64S_0
      rw [w1, w2, Int.toNat_natCast, mkI_len, hq, dt (show (i : Int) < (l.length : Int) by omega), dt (show 0 ≤ (i : Int) by omega)]; rfl
    · show st_laws_heldInt64S_0 R (mkI l l.length) ((l.length + 1 : Nat) : Int) (l.length : Int) 0 = _
      unfold st_laws_heldInt64S_0
      rw [mkI_len, df (show ¬ (l.length : Int) < (l.length : Int) by omega)]; rfl
  unfold p_laws_heldInt64S r_laws_heldInt64S
  rw [hw]
  exact ⟨rfl, rfl⟩

/-! ### the whole -/
theorem rds_in {rs : List Rd} {N : Nat} (h : ∀ i, i < rs.length → rdOk (rs.getD i rd0) ((N : Int) - 1) = true) : RdsIn rs N := by
  intro i hi
  have h := h i hi
  unfold rdOk p_impl_ValidNet_1 p_impl_within at h
  revert h
  generalize rs.getD i rd0 = r
  intro h
  obtain ⟨a, b, L⟩ := r
  dsimp only at h
  by_cases c1 : 0 ≤ a
  · by_cases c2 : a ≤ (N : Int) - 1
    · by_cases c3 : 0 ≤ b
      · by_cases c4 : b ≤ (N : Int) - 1
        · exact ⟨a.toNat, b.toNat, L, by rw [Int.toNat_of_nonneg c1, Int.toNat_of_nonneg c3], by omega, by omega⟩
        · rw [dt c1, dt c2, dt c3, df c4] at h; cases h
      · rw [dt c1, dt c2, df c3] at h; cases h
    · rw [dt c1, df c2] at h; cases h
  · rw [df c1] at h; cases h

theorem match_eq (pl : List (Nat × Nat)) (rs : List Rd) (ls : List (Nat × Nat)) (by_ : Int) (h1 : pl.length ≤ 1048576) (h2 : rs.length ≤ 1048576) (h3 : ls.length ≤ 1048576) :
    r_impl_MatchTrack R pl rs ls by_ = true ∧ r_spec_MatchTrack R pl rs ls by_ = true ∧ p_impl_MatchTrack R pl rs ls by_ = p_spec_MatchTrack R pl rs ls by_ ∧ (p_impl_MatchTrack R pl rs ls by_).1.length ≤ 64 := by
  obtain ⟨n1, n2, n3, n4⟩ := net_eq pl rs h1 h2
  have z0 : ([] : List Int).length ≤ 64 := by show 0 ≤ 64; omega
  cases hv : p_impl_ValidNet R pl rs
  · rw [hv] at n1
    unfold r_impl_MatchTrack r_spec_MatchTrack p_impl_MatchTrack p_spec_MatchTrack
    rw [n2, n3, hv, ← n1]
    exact ⟨rfl, rfl, rfl, z0⟩
  · obtain ⟨⟨o1, o2, o3⟩, o4, o5⟩ := n4.1 hv
    rw [hv] at n1
    cases hl : ((ls.all fun x => p_impl_ValidPlace R x.1 x.2) && (decide (1 ≤ ls.length) && decide (ls.length ≤ 64)))
    · unfold r_impl_MatchTrack r_spec_MatchTrack p_impl_MatchTrack p_spec_MatchTrack
      rw [n2, n3, hv, ← n1, hl, dt (show ls.length < 4611686018427387904 by omega)]
      exact ⟨rfl, rfl, rfl, z0⟩
    · cases hb : p_impl_within R by_ 0 1000000
      · have hb' : p_spec_l00In R by_ 0 1000000 = false := by rw [in_within]; exact hb
        unfold r_impl_MatchTrack r_spec_MatchTrack p_impl_MatchTrack p_spec_MatchTrack
        rw [n2, n3, hv, ← n1, hl, hb, hb', dt (show ls.length < 4611686018427387904 by omega)]
        exact ⟨rfl, rfl, rfl, z0⟩
      · have hb' : p_spec_l00In R by_ 0 1000000 = true := by rw [in_within]; exact hb
        have hl' := hl
        rw [Bool.and_eq_true, Bool.and_eq_true, decide_eq_true_eq, decide_eq_true_eq, List.all_eq_true] at hl'
        obtain ⟨l3, l1, l2⟩ := hl'
        have hR : RoutesOk pl rs := fun f hf => routes_eq pl rs o1 o2 (by omega) (rds_in o5) f hf
        have hQ : MissOk pl ls := fun k i hk hi => by
          have p1 : p_impl_ValidPlace R (pl.getD k (0, 0)).1 (pl.getD k (0, 0)).2 = true := by rw [getD_lt hk]; exact o3 _ (List.getElem_mem hk)
          have p2 : p_impl_ValidPlace R (ls.getD i (0, 0)).1 (ls.getD i (0, 0)).2 = true := by rw [getD_lt hi]; exact l3 _ (List.getElem_mem hi)
          exact miss_ok p1 p2
        obtain ⟨a1, a2⟩ := impl_whole pl rs ls by_ o1 o2 l1 l2 hR hQ n2 hv hl hb
        obtain ⟨b1, b2⟩ := spec_whole pl rs ls by_ o1 o2 l1 l2 hR hQ n3 n1.symm hl hb'
        refine ⟨a1, b1, a2.trans b2.symm, ?_⟩
        rw [a2]
        show (os _ _ ls.length ls.length).length ≤ 64
        rw [os_len]; exact l2

theorem szP_lt {l : List (Nat × Nat)} {k : Int} (h0 : 0 ≤ k) (h1 : k ≤ 1048576) (h : l.length ≤ 9223372036854775807) (hs : decide (p_laws_szPlaceS R l k < 0) = false) : l.length ≤ 1048576 ∧ 0 ≤ p_laws_szPlaceS R l k ∧ p_laws_szPlaceS R l k ≤ 1048576 := by
  have hs := of_decide_eq_false hs
  unfold p_laws_szPlaceS at *
  rw [wrap_small (by omega) (by omega)] at *
  cases hd : decide (k - (l.length : Int) < 0)
  · have := of_decide_eq_false hd
    rw [hd] at hs
    exact ⟨by omega, by show 0 ≤ k - (l.length : Int); omega, by show k - (l.length : Int) ≤ 1048576; omega⟩
  · rw [hd] at hs
    exact absurd (by decide : (Int.negSucc 0) < 0) hs
theorem szR_lt {l : List Rd} {k : Int} (h0 : 0 ≤ k) (h1 : k ≤ 1048576) (h : l.length ≤ 9223372036854775807) (hs : decide (p_laws_szRoadS R l k < 0) = false) : l.length ≤ 1048576 ∧ 0 ≤ p_laws_szRoadS R l k ∧ p_laws_szRoadS R l k ≤ 1048576 := by
  have hs := of_decide_eq_false hs
  unfold p_laws_szRoadS at *
  rw [wrap_small (by omega) (by omega)] at *
  cases hd : decide (k - (l.length : Int) < 0)
  · have := of_decide_eq_false hd
    rw [hd] at hs
    exact ⟨by omega, by show 0 ≤ k - (l.length : Int); omega, by show k - (l.length : Int) ≤ 1048576; omega⟩
  · rw [hd] at hs
    exact absurd (by decide : (Int.negSucc 0) < 0) hs
theorem szN_lt {pl : List (Nat × Nat)} {rs : List Rd} (h1 : pl.length ≤ 9223372036854775807) (h2 : rs.length ≤ 9223372036854775807) (hs : decide (p_laws_szNet R pl rs 1048576 < 0) = false) : pl.length ≤ 1048576 ∧ rs.length ≤ 1048576 ∧ 0 ≤ p_laws_szNet R pl rs 1048576 ∧ p_laws_szNet R pl rs 1048576 ≤ 1048576 := by
  unfold p_laws_szNet c1_laws_szNet c0_laws_szNet at *
  cases ha : decide (p_laws_szPlaceS R pl 1048576 < 0)
  · obtain ⟨a1, a2, a3⟩ := szP_lt (by omega) (by omega) h1 ha
    rw [ha] at hs
    simp only [cond_false] at *
    cases hb : decide (p_laws_szRoadS R rs (p_laws_szPlaceS R pl 1048576) < 0)
    · obtain ⟨b1, b2, b3⟩ := szR_lt a2 a3 h2 hb
      exact ⟨a1, b1, b2, b3⟩
    · rw [hb] at hs
      simp only [cond_true] at hs
      exact absurd (show Int.negSucc 0 < 0 by decide) (of_decide_eq_false hs)
  · rw [ha] at hs
    simp only [cond_true] at hs
    exact absurd (show Int.negSucc 0 < 0 by decide) (of_decide_eq_false hs)

theorem law_MatchTrack (pl : List (Nat × Nat)) (rs : List Rd) (ls : List (Nat × Nat)) (by_ : Int) (h1 : pl.length ≤ 9223372036854775807) (h2 : rs.length ≤ 9223372036854775807) (h3 : ls.length ≤ 9223372036854775807) :
    r_laws_FnExactMatchTrack R pl rs ls by_ = true ∧ p_laws_FnExactMatchTrack R pl rs ls by_ = true := by
  unfold r_laws_FnExactMatchTrack p_laws_FnExactMatchTrack
  have e0 : c0_laws_FnExactMatchTrack R pl rs ls by_ = p_laws_szNet R pl rs 1048576 := rfl
  have e1 : c1_laws_FnExactMatchTrack R pl rs ls by_ = p_laws_szPlaceS R ls (p_laws_szNet R pl rs 1048576) := rfl
  cases c0 : decide (p_laws_szNet R pl rs 1048576 < 0)
  · obtain ⟨l1, l2, s1, s2⟩ := szN_lt h1 h2 c0
    cases c1 : decide (p_laws_szPlaceS R ls (p_laws_szNet R pl rs 1048576) < 0)
    · obtain ⟨l3, _, _⟩ := szP_lt s1 s2 h3 c1
      obtain ⟨t1, t2⟩ := toNet_eq pl rs l1 l2
      have e2 : c2_laws_FnExactMatchTrack R pl rs ls by_ = (pl, rs) := t1
      obtain ⟨m1, m2, m3, m4⟩ := match_eq pl rs ls by_ l1 l2 l3
      have e3 : c3_laws_FnExactMatchTrack R pl rs ls by_ = p_impl_MatchTrack R pl rs ls by_ := by unfold c3_laws_FnExactMatchTrack; rw [e2]
      have e4 : c4_laws_FnExactMatchTrack R pl rs ls by_ = p_impl_MatchTrack R pl rs ls by_ := by unfold c4_laws_FnExactMatchTrack; rw [e2, m3]
      generalize p_impl_MatchTrack R pl rs ls by_ = G at *
      obtain ⟨g1, g2, g3⟩ := G
      have m4 : g1.length ≤ 64 := m4
      obtain ⟨k1, k2⟩ := markI_eq g1 m4
      obtain ⟨q1, q2⟩ := heldI_eq g1 m4
      have e5 : c5_laws_FnExactMatchTrack R pl rs ls by_ = (((g1.length + 1 : Nat) : Int), mkI g1 g1.length) := by unfold c5_laws_FnExactMatchTrack; rw [e3]; exact k1
      have e6 : c6_laws_FnExactMatchTrack R pl rs ls by_ = ((g1.length + 1 : Nat) : Int) := by unfold c6_laws_FnExactMatchTrack; rw [e5]; exact q1
      obtain ⟨i1, i2⟩ := eqI_refl g1 m4
      obtain ⟨n1, n2⟩ := eqNet_refl pl rs l1 l2
      obtain ⟨u1, u2⟩ := markNet_any pl rs l1 l2
      obtain ⟨v1, v2⟩ := markPl_any ls l3 (1 + 2 * pl.length + 3 * rs.length) (by omega)
      have b2 : (g2 != g2) = false := by simp
      have b3 : (g3 != g3) = false := by simp
      have b6 : (((g1.length + 1 : Nat) : Int) != ((g1.length + 1 : Nat) : Int)) = false := by simp
      have d6 : decide (((g1.length + 1 : Nat) : Int) < 0) = false := df (by omega)
      have dv : decide (((1 + 2 * pl.length + 3 * rs.length + 2 * ls.length : Nat) : Int) < 0) = false := df (by omega)
      rw [e0, e1, e2, e3, e4, e5, e6, c0, c1, t2, m1, m2, u2, v2, v1, u1, k2, q2, i1, i2, n1, n2, eqPlaceS_refl, b2, b3, b6, d6, dv, mkI_len, dt (show ls.length ≤ 1073741824 by omega), dt (show ls.length < 4611686018427387904 by omega)]
      simp only [Nat.beq_refl]
      exact ⟨rfl, rfl⟩
    · rw [e0, e1, c0, c1]; exact ⟨rfl, rfl⟩
  · rw [e0, c0]; exact ⟨rfl, rfl⟩
end Go.Dv
