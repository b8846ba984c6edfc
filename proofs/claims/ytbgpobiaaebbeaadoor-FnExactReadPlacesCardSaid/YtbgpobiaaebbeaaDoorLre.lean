/- The plain law of FnExactReadPlaces. -/
import Derived.Test.YtbgpobiaaebbeaaDoorLrd

set_option linter.unusedSimpArgs false
namespace Go.Dv
open Go.Cv

theorem cutG_len (c : UInt8) : ∀ (r cur : List UInt8), (cutG c cur r).length ≤ r.length + 1 ∧ ∀ w ∈ cutG c cur r, w.length ≤ cur.length + r.length
  | [], cur => ⟨Nat.le_refl _, fun w hw => by
      have hw : w ∈ [cur] := hw
      rw [List.mem_singleton] at hw; subst hw; simp⟩
  | b :: r, cur => by
    by_cases h : b = c
    · subst h
      rw [cutG_hit]
      obtain ⟨h1, h2⟩ := cutG_len b r []
      refine ⟨by simp; omega, fun w hw => ?_⟩
      rcases List.mem_cons.1 hw with rfl | hw
      · simp
      · have := h2 w hw; simp at this ⊢; omega
    · rw [cutG_miss h]
      obtain ⟨h1, h2⟩ := cutG_len c r (cur ++ [b])
      refine ⟨by simp; omega, fun w hw => ?_⟩
      have := h2 w hw; simp at this ⊢; omega

/-- the words of a text -/
def wds (s : ByteArray) : List ByteArray := (cutG 44 [] s.data.toList).map ofL
theorem wds_len (s : ByteArray) : (wds s).length ≤ s.size + 1 := by
  unfold wds
  rw [List.length_map]
  exact (cutG_len 44 s.data.toList []).1
theorem wds_size (s : ByteArray) (i : Nat) (h : i < (wds s).length) : ((wds s).getD i w0).size ≤ s.size := by
  rw [getD_lt h]
  have hm : (wds s)[i] ∈ wds s := List.getElem_mem h
  unfold wds at hm
  rw [List.mem_map] at hm
  obtain ⟨w, hw, e⟩ := hm
  have h2 := (cutG_len 44 s.data.toList []).2 w hw
  have e2 : ((wds s)[i]).size = w.length := by
    rw [show (wds s)[i] = ofL w from e.symm]; rfl
  rw [e2]
  simpa using h2

/-- what both read -/
noncomputable def rd (s : ByteArray) : List Nat × Bool :=
  bif s.toList == (ByteArray.mk #[110, 111, 110, 101]).toList then ([], true) else
    match mapG (wds s) with
    | some xs => if (wds s).length ≤ 256 then (xs, true) else ([], false)
    | none => ([], false)
theorem mapG_len : ∀ (P : List ByteArray) (xs : List Nat), mapG P = some xs → xs.length = P.length
  | [], xs, h => by cases h; rfl
  | w :: r, xs, h => by
    unfold mapG at h
    split at h
    · cases h
    · split at h
      · cases h
      · rename_i ys hy
        cases h
        simp [mapG_len r ys hy]
theorem rd_len (s : ByteArray) : (rd s).1.length ≤ 256 := by
  unfold rd
  cases (s.toList == (ByteArray.mk #[110, 111, 110, 101]).toList)
  · simp only [cond_false]
    cases h : mapG (wds s) with
    | none => simp
    | some xs =>
      simp only
      split
      · rw [mapG_len _ _ h]; assumption
      · simp
  · simp

theorem implNums (s : ByteArray) (hs : s.size ≤ 1048576) : p_impl_ReadNumbers R s = rd s ∧ r_impl_ReadNumbers R s = true := by
  have hP := wds_len s
  have hsp : c0_impl_readTexts_float32_k R s 256 = wds s := split_cut s 44
  have hrun := implList_run (wds s) (by omega) (fun i hi => Nat.le_trans (wds_size s i hi) hs) (wds s).length 0 [] (by omega) rfl (by omega)
  have hc1 : c1_impl_readTexts_float32_k R s 256 = W_impl_readTexts_float32_k_0 R (256, (), [], wds s, ((wds s).length : Int), ((0 : Nat) : Int), [], false, ()) := by
    unfold c1_impl_readTexts_float32_k
    rw [hsp]; rfl
  rw [List.drop_zero] at hrun
  rw [hrun] at hc1
  have hr : r_strings_Split R s (ByteArray.mk #[44]) = true := by
    unfold r_strings_Split
    rw [dt (show s.size < 4294967281 by omega)]; rfl
  unfold p_impl_ReadNumbers r_impl_ReadNumbers c0_impl_ReadNumbers p_impl_readTexts_float32_k r_impl_readTexts_float32_k rd
  rw [hc1, hr]
  simp only [Nat.beq_refl]
  cases (s.toList == (ByteArray.mk #[110, 111, 110, 101]).toList)
  · simp only [cond_false]
    cases mapG (wds s) with
    | none => exact ⟨rfl, rfl⟩
    | some xs =>
      simp only
      by_cases c : (wds s).length ≤ 256
      · rw [if_pos c, if_pos c]; exact ⟨rfl, rfl⟩
      · rw [if_neg c, if_neg c]; exact ⟨rfl, rfl⟩
  · exact ⟨rfl, rfl⟩
theorem specNums (s : ByteArray) (hs : s.size ≤ 1048576) : p_spec_l01NRead R s = rd s ∧ r_spec_l01NRead R s = true := by
  have hP := wds_len s
  obtain ⟨k1, k2⟩ := specCut_eq s hs 44
  have hsp : c0_spec_l01NRead R s = wds s := k1
  have hr : r_spec_l01Cut R s 44 = true := k2
  unfold p_spec_l01NRead r_spec_l01NRead rd
  rw [hsp, hr]
  simp only [Nat.beq_refl]
  cases (s.toList == (ByteArray.mk #[110, 111, 110, 101]).toList)
  · simp only [cond_false]
    by_cases c : (wds s).length ≤ 256
    · have hrun := specList_run (wds s) (by omega) (wds s).length 0 [] (by omega) rfl
      have hc1 : c1_spec_l01NRead R s = W_spec_l01NRead_0 R ([], wds s, ((0 : Nat) : Int), [], false, ()) := by
        unfold c1_spec_l01NRead
        rw [hsp]; rfl
      rw [List.drop_zero] at hrun
      rw [hrun] at hc1
      rw [hc1, df (show ¬ ((wds s).length : Int) > 256 by omega)]
      cases mapG (wds s) with
      | none => exact ⟨rfl, rfl⟩
      | some xs => simp only; rw [if_pos c]; exact ⟨rfl, rfl⟩
    · rw [dt (show ((wds s).length : Int) > 256 by omega)]
      cases mapG (wds s) with
      | none => exact ⟨rfl, rfl⟩
      | some xs => simp only; rw [if_neg c]; exact ⟨rfl, rfl⟩
  · exact ⟨rfl, rfl⟩

/-! ### numbers by twos -/
def prs (l : List Nat) : Nat → List (Nat × Nat)
  | 0 => []
  | i + 1 => prs l i ++ [(l.getD (2 * i) 0, l.getD (2 * i + 1) 0)]
theorem prs_len (l : List Nat) : ∀ i, (prs l i).length = i
  | 0 => rfl
  | i + 1 => by rw [prs, List.length_append, prs_len l i]; rfl
theorem implPairs (l : List Nat) (h : l.length ≤ 256) (n : Nat) (hn : l.length = 2 * n) : W_impl_ReadPlaces_0 R (l, [], 0, [], false, ()) = some (prs l n, [], false, ()) := by
  refine runW_count (n := n) (step := fun x => st_impl_ReadPlaces_0 R x.1 x.2.1 x.2.2.1 x.2.2.2.1 x.2.2.2.2.1) (mk := fun i => (l, prs l i, ((2 * i : Nat) : Int), [], false, ())) (fun i hi => ?_) ?_
  · simp only [st_impl_ReadPlaces_0]
    have e1 : IntKind.i64.wrap (((2 * i : Nat) : Int) + 1) = ((2 * i + 1 : Nat) : Int) := wrap_succ (by omega)
    have e2 : IntKind.i64.wrap (((2 * i : Nat) : Int) + 2) = ((2 * (i + 1) : Nat) : Int) := by rw [wrap_small (by omega) (by omega)]; omega
    have b1 : Nat.blt (((2 * i : Nat) : Int)).toNat l.length = true := ble_of (show 2 * i + 1 ≤ l.length by omega)
    have b2 : Nat.blt (((2 * i + 1 : Nat) : Int)).toNat l.length = true := ble_of (show 2 * i + 1 + 1 ≤ l.length by omega)
    have m1 : ∀ p : Nat × Nat, ((prs l i).length + [p].length).ble 1073741824 = true := fun p => ble_of (by rw [prs_len]; simp; omega)
    rw [e1, e2, b1, b2, m1, dt (show ((2 * i : Nat) : Int) < (l.length : Int) by omega), dt (show 0 ≤ ((2 * i : Nat) : Int) by omega), dt (show 0 ≤ ((2 * i + 1 : Nat) : Int) by omega), dt (show ((2 * i + 1 : Nat) : Int) < (l.length : Int) by omega)]
    simp only [Nat.beq_refl]
    rfl
  · simp only [st_impl_ReadPlaces_0]
    rw [df (show ¬ ((2 * n : Nat) : Int) < (l.length : Int) by omega)]
    simp only [Nat.beq_refl]
    rfl
theorem specPairs (l : List Nat) (h : l.length ≤ 256) (n : Nat) (hn : l.length = 2 * n) : W_spec_l08ReadPlaces_0 R (l, [], 0, (), false, ()) = some (prs l n, (), false, ()) := by
  refine runW_count (n := n) (step := fun x => st_spec_l08ReadPlaces_0 R x.1 x.2.1 x.2.2.1 x.2.2.2.2.1) (mk := fun i => (l, prs l i, ((2 * i : Nat) : Int), (), false, ())) (fun i hi => ?_) ?_
  · simp only [st_spec_l08ReadPlaces_0]
    have e1 : IntKind.i64.wrap (((2 * i : Nat) : Int) + 1) = ((2 * i + 1 : Nat) : Int) := wrap_succ (by omega)
    have e2 : IntKind.i64.wrap (((2 * i : Nat) : Int) + 2) = ((2 * (i + 1) : Nat) : Int) := by rw [wrap_small (by omega) (by omega)]; omega
    have b1 : Nat.blt (((2 * i : Nat) : Int)).toNat l.length = true := ble_of (show 2 * i + 1 ≤ l.length by omega)
    have b2 : Nat.blt (((2 * i + 1 : Nat) : Int)).toNat l.length = true := ble_of (show 2 * i + 1 + 1 ≤ l.length by omega)
    have m1 : ∀ p : Nat × Nat, ((prs l i).length + [p].length).ble 1073741824 = true := fun p => ble_of (by rw [prs_len]; simp; omega)
    rw [e1, e2, b1, b2, m1, dt (show ((2 * i : Nat) : Int) < (l.length : Int) by omega), dt (show 0 ≤ ((2 * i : Nat) : Int) by omega), dt (show 0 ≤ ((2 * i + 1 : Nat) : Int) by omega), dt (show ((2 * i + 1 : Nat) : Int) < (l.length : Int) by omega)]
    simp only [Nat.beq_refl]
    rfl
  · simp only [st_spec_l08ReadPlaces_0]
    rw [df (show ¬ ((2 * n : Nat) : Int) < (l.length : Int) by omega)]
    simp only [Nat.beq_refl]
    rfl

theorem readPlaces_eq (s : ByteArray) (hs : s.size ≤ 1048576) : p_impl_ReadPlaces R s = p_spec_ReadPlaces R s ∧ r_impl_ReadPlaces R s = true ∧ r_spec_ReadPlaces R s = true ∧ (p_spec_ReadPlaces R s).1.length ≤ 64 := by
  obtain ⟨i1, i2⟩ := implNums s hs
  obtain ⟨j1, j2⟩ := specNums s hs
  have hlen := rd_len s
  have hc0 : c0_impl_ReadPlaces R s = rd s := i1
  have hd0 : c0_spec_l08ReadPlaces R s = rd s := j1
  unfold p_impl_ReadPlaces r_impl_ReadPlaces p_spec_ReadPlaces r_spec_ReadPlaces c0_spec_ReadPlaces p_spec_l08ReadPlaces r_spec_l08ReadPlaces
  rw [hc0, hd0, i2, j2]
  generalize hl : (rd s).1 = l at hlen
  cases (rd s).2
  · exact ⟨rfl, rfl, rfl, Nat.zero_le _⟩
  · by_cases c : l.length % 2 = 0
    · have e2 : ((l.length : Int).tmod 2 != 0) = false := by
        have : (l.length : Int).tmod 2 = ((l.length % 2 : Nat) : Int) := rfl
        rw [this, c]; rfl
      have hn : l.length = 2 * (l.length / 2) := by omega
      have hc1 : c1_impl_ReadPlaces R s = some (prs l (l.length / 2), [], false, ()) := by
        unfold c1_impl_ReadPlaces
        rw [hc0, hl]
        exact implPairs l hlen (l.length / 2) hn
      have hd1 : c1_spec_l08ReadPlaces R s = some (prs l (l.length / 2), (), false, ()) := by
        unfold c1_spec_l08ReadPlaces
        rw [hd0, hl]
        exact specPairs l hlen (l.length / 2) hn
      have hp := prs_len l (l.length / 2)
      rw [e2, hc1, hd1]
      simp only [Option.getD_some, Option.isSome_some, Nat.beq_refl]
      rw [dt (show (prs l (l.length / 2)).length < 4611686018427387904 by omega)]
      cases hv : (((prs l (l.length / 2)).all fun x => p_impl_ValidPlace R x.fst x.snd) && (decide (1 ≤ (prs l (l.length / 2)).length) && decide ((prs l (l.length / 2)).length ≤ 64)))
      · refine ⟨?_, ?_, ?_, ?_⟩ <;> first | trivial | rfl | exact Nat.zero_le _
      · refine ⟨by first | trivial | rfl, by first | trivial | rfl, by first | trivial | rfl, ?_⟩
        simp only [Bool.and_eq_true, decide_eq_true_eq] at hv
        exact hv.2.2
    · have e2 : ((l.length : Int).tmod 2 != 0) = true := by
        have : (l.length : Int).tmod 2 = ((l.length % 2 : Nat) : Int) := rfl
        rw [this, bne_iff_ne]; omega
      rw [e2]
      exact ⟨rfl, rfl, rfl, Nat.zero_le _⟩

/-! ### marks -/
def mkP (i : Nat) : Nat × Nat := (R.ofi .f32 ((2 * i + 1 : Nat) : Int), R.ofi .f32 ((2 * i + 2 : Nat) : Int))
def mkUp (l : List (Nat × Nat)) : Nat → List (Nat × Nat)
  | 0 => l
  | i + 1 => (mkUp l i).set i (mkP i)
theorem mkUp_length (l : List (Nat × Nat)) : ∀ i, (mkUp l i).length = l.length
  | 0 => rfl
  | i + 1 => by rw [mkUp, List.length_set, mkUp_length l i]
theorem mkUp_get (l : List (Nat × Nat)) : ∀ i j, j < i → i ≤ l.length → (mkUp l i).getD j (0, 0) = mkP j
  | 0, j, h, _ => by omega
  | i + 1, j, h, hi => by
    rw [mkUp]
    rcases Nat.eq_or_lt_of_le (Nat.le_of_lt_succ h) with rfl | h'
    · rw [List.getD_eq_getElem?_getD, List.getElem?_set_self (by rw [mkUp_length]; omega)]; rfl
    · have := mkUp_get l i j h' (by omega)
      rw [List.getD_eq_getElem?_getD, List.getElem?_set_ne (by omega), ← List.getD_eq_getElem?_getD]
      exact this
theorem markP (l : List (Nat × Nat)) (h : l.length ≤ 64) : p_laws_markPlaceS R l 1 = (((2 * l.length + 1 : Nat) : Int), mkUp l l.length) ∧ r_laws_markPlaceS R l 1 = true := by
  have hw := runW_count (step := fun x => st_laws_markPlaceS_0 R x.1 x.2.1 x.2.2.1 x.2.2.2.1) (n := l.length) (mk := fun i => (mkUp l i, ((2 * i + 1 : Nat) : Int), (i : Int), 0, ())) (o := (((2 * l.length + 1 : Nat) : Int), 0, mkUp l l.length, ()))
    (fun i hi => by
      simp only [st_laws_markPlaceS_0]
      have e0 : ((i : Int)).toNat = i := rfl
      have e1 : IntKind.i64.wrap (((2 * i + 1 : Nat) : Int) + 1) = ((2 * i + 2 : Nat) : Int) := wrap_succ (by omega)
      have e2 : IntKind.i64.wrap (((2 * i + 2 : Nat) : Int) + 1) = ((2 * (i + 1) + 1 : Nat) : Int) := wrap_succ (by omega)
      have b1 : Nat.blt i l.length = true := ble_of hi
      have hset : ∀ x y : Nat, ((mkUp l i).set i (x, ((mkUp l i).getD i (0, 0)).2)).set i ((((mkUp l i).set i (x, ((mkUp l i).getD i (0, 0)).2)).getD i (0, 0)).1, y) = (mkUp l i).set i (x, y) := fun x y => by
        rw [List.set_set, List.getD_eq_getElem?_getD, List.getElem?_set_self (by rw [mkUp_length]; omega)]
        rfl
      rw [e0, e1, e2, wrap_succ (by omega), hset]
      simp only [List.length_set, mkUp_length]
      rw [dt (show (i : Int) < (l.length : Int) by omega), dt (show 0 ≤ (i : Int) by omega), b1, Nat.beq_refl]
      rfl)
    (by
      simp only [st_laws_markPlaceS_0]
      rw [mkUp_length, df (show ¬ (l.length : Int) < (l.length : Int) by omega)]; rfl)
  have hc : c0_laws_markPlaceS R l 1 = some (((2 * l.length + 1 : Nat) : Int), 0, mkUp l l.length, ()) := hw
  unfold p_laws_markPlaceS r_laws_markPlaceS
  rw [hc, Nat.beq_refl]
  exact ⟨rfl, rfl⟩
theorem ofi_self (k : Nat) (h : k < 256) : R.cmp .neq .f32 (R.ofi .f32 (k : Int)) (R.ofi .f32 (k : Int)) = false := by
  have : ∀ n : Fin 256, R.cmp .neq .f32 (R.ofi .f32 ((n.1 : Nat) : Int)) (R.ofi .f32 ((n.1 : Nat) : Int)) = false := by decide +kernel
  exact this ⟨k, h⟩
theorem heldP (l : List (Nat × Nat)) (h : l.length ≤ 64) : p_laws_heldPlaceS R (mkUp l l.length) 1 = ((2 * l.length + 1 : Nat) : Int) ∧ r_laws_heldPlaceS R (mkUp l l.length) 1 = true := by
  have hw := runW_count (step := fun x => st_laws_heldPlaceS_0 R x.1 x.2.1 x.2.2.1 x.2.2.2.1) (n := l.length) (mk := fun i => (mkUp l l.length, ((2 * i + 1 : Nat) : Int), (i : Int), 0, ())) (o := .inr (((2 * l.length + 1 : Nat) : Int), 0, ()))
    (fun i hi => by
      simp only [st_laws_heldPlaceS_0]
      have e0 : ((i : Int)).toNat = i := rfl
      have e1 : IntKind.i64.wrap (((2 * i + 1 : Nat) : Int) + 1) = ((2 * i + 2 : Nat) : Int) := wrap_succ (by omega)
      have e2 : IntKind.i64.wrap (((2 * i + 2 : Nat) : Int) + 1) = ((2 * (i + 1) + 1 : Nat) : Int) := wrap_succ (by omega)
      rw [e0, e1, e2, wrap_succ (by omega), mkUp_get l l.length i hi (Nat.le_refl _)]
      simp only [mkUp_length]
      have c1 : R.cmp .neq .f32 (mkP i).fst (R.ofi .f32 ((2 * i + 1 : Nat) : Int)) = false := ofi_self _ (by omega)
      have c2 : R.cmp .neq .f32 (mkP i).snd (R.ofi .f32 ((2 * i + 2 : Nat) : Int)) = false := ofi_self _ (by omega)
      rw [dt (show (i : Int) < (l.length : Int) by omega), dt (show 0 ≤ (i : Int) by omega), c1, c2]
      rfl)
    (by
      simp only [st_laws_heldPlaceS_0]
      rw [mkUp_length, df (show ¬ (l.length : Int) < (l.length : Int) by omega)]; rfl)
  have hc : c0_laws_heldPlaceS R (mkUp l l.length) 1 = some (.inr (((2 * l.length + 1 : Nat) : Int), 0, ())) := hw
  unfold p_laws_heldPlaceS r_laws_heldPlaceS
  rw [hc]
  exact ⟨rfl, rfl⟩

theorem law_ReadPlaces (s : ByteArray) : r_laws_FnExactReadPlaces R s = true ∧ p_laws_FnExactReadPlaces R s = true := by
  unfold r_laws_FnExactReadPlaces p_laws_FnExactReadPlaces c3_laws_FnExactReadPlaces c2_laws_FnExactReadPlaces c1_laws_FnExactReadPlaces c0_laws_FnExactReadPlaces
  by_cases c : (s.size : Int) > 1048576
  · rw [dt c]; exact ⟨rfl, rfl⟩
  · rw [df c]
    obtain ⟨e1, e2, e3, e4⟩ := readPlaces_eq s (by omega)
    rw [e1, e2, e3]
    generalize p_spec_ReadPlaces R s = q at e4
    obtain ⟨l, ok⟩ := q
    have e4 : l.length ≤ 64 := e4
    obtain ⟨m1, m2⟩ := markP l e4
    obtain ⟨h1, h2⟩ := heldP l e4
    have hb : ∀ b : Bool, (b != b) = false := fun b => by cases b <;> rfl
    have hn : ∀ z : Int, (z != z) = false := fun z => by simp
    simp only [m1, m2, h1, h2, hb, hn, eqPlaceS_refl, Nat.beq_refl, mkUp_length]
    rw [dt (show l.length < 4611686018427387904 by omega), df (show ¬ ((2 * l.length + 1 : Nat) : Int) < 0 by omega)]
    exact ⟨rfl, rfl⟩
end Go.Dv
