/- The plain law of FnExactReadPlaces. -/
import Derived.Test.YtbgpobiaaebbeaaGreatDoorLrd
import Derived.Test.YtbgpobiaaebbeaaGreatDoorWko
import Derived.Test.YtbgpobiaaebbeaaGreatDoorWkc
import Derived.Test.YtbgpobiaaebbeaaGreatDoorWkq

set_option linter.unusedSimpArgs false
namespace Go.Dv
open Go.Cv

theorem cutG_len (c : UInt8) : ∀ (r cur : List UInt8), (cutG c cur r).length ≤ r.length + 1 ∧ ∀ w ∈ cutG c cur r, w.length ≤ cur.length + r.length
  | [], cur => ⟨Nat.le_refl _, fun w hw => by
      have hw : w ∈ [cur] := hw
      rw [List.mem_singleton] at hw; subst hw; simp⟩
  | b :: r, cur => by
    by_cases h : b = c
    · subst h
      rw [cutG_hit]
      obtain ⟨h1, h2⟩ := cutG_len b r []
      refine ⟨by simp; omega, fun w hw => ?_⟩
      rcases List.mem_cons.1 hw with rfl | hw
      · simp
      · have := h2 w hw; simp at this ⊢; omega
    · rw [cutG_miss h]
      obtain ⟨h1, h2⟩ := cutG_len c r (cur ++ [b])
      refine ⟨by simp; omega, fun w hw => ?_⟩
      have := h2 w hw; simp at this ⊢; omega

/-- the words of a text -/
def wds (s : ByteArray) : List ByteArray := (cutG 44 [] s.data.toList).map ofL
theorem wds_len (s : ByteArray) : (wds s).length ≤ s.size + 1 := by
  unfold wds
  rw [List.length_map]
  exact (cutG_len 44 s.data.toList []).1
theorem wds_size (s : ByteArray) (i : Nat) (h : i < (wds s).length) : ((wds s).getD i w0).size ≤ s.size := by
  rw [getD_lt h]
  have hm : (wds s)[i] ∈ wds s := List.getElem_mem h
  unfold wds at hm
  rw [List.mem_map] at hm
  obtain ⟨w, hw, e⟩ := hm
  have h2 := (cutG_len 44 s.data.toList []).2 w hw
  have e2 : ((wds s)[i]).size = w.length := by
    rw [show (wds s)[i] = ofL w from e.symm]; rfl
  rw [e2]
  simpa using h2

/-- what both read -/
noncomputable def rd (s : ByteArray) : List Nat × Bool :=
  bif s.toList == (ByteArray.mk #[110, 111, 110, 101]).toList then ([], true) else
    match mapG (wds s) with
    | some xs => if (wds s).length ≤ 256 then (xs, true) else ([], false)
    | none => ([], false)
theorem mapG_len : ∀ (P : List ByteArray) (xs : List Nat), mapG P = some xs → xs.length = P.length
  | [], xs, h => by cases h; rfl
  | w :: r, xs, h => by
    unfold mapG at h
    split at h
    · cases h
    · split at h
      · cases h
      · rename_i ys hy
        cases h
        simp [mapG_len r ys hy]
theorem rd_len (s : ByteArray) : (rd s).1.length ≤ 256 := by
  unfold rd
  cases (s.toList == (ByteArray.mk #[110, 111, 110, 101]).toList)
  · simp only [cond_false]
    cases h : mapG (wds s) with
    | none => simp
    | some xs =>
      simp only
      split
      · rw [mapG_len _ _ h]; assumption
      · simp
  · simp

theorem implNums (s : ByteArray) (hs : s.size ≤ 1048576) : p_impl_ReadNumbers R s = rd s ∧ r_impl_ReadNumbers R s = true := by
  have hP := wds_len s
  have hsp : c0_impl_readTexts_float32_k R s 256 = wds s := split_cut s 44
  have hrun := implList_run (wds s) (by omega) (fun i hi => Nat.le_trans (wds_size s i hi) hs) (wds s).length 0 [] (by omega) rfl (by omega)
  have hc1 : c1_impl_readTexts_float32_k R s 256 = W_impl_readTexts_float32_k_0 R (256, (), [], wds s, ((wds s).length : Int), ((0 : Nat) : Int), [], false, ()) := by
    unfold c1_impl_readTexts_float32_k
    rw [hsp]; rfl
  rw [List.drop_zero] at hrun
  rw [hrun] at hc1
  have hr : r_strings_Split R s (ByteArray.mk #[44]) = true := by
    unfold r_strings_Split
    rw [dt (show s.size < 4294967281 by omega)]; rfl
  unfold p_impl_ReadNumbers r_impl_ReadNumbers c0_impl_ReadNumbers p_impl_readTexts_float32_k r_impl_readTexts_float32_k rd
  rw [hc1, hr]
  simp only [Nat.beq_refl]
  cases (s.toList == (ByteArray.mk #[110, 111, 110, 101]).toList)
  · simp only [cond_false]
    cases mapG (wds s) with
    | none => exact ⟨rfl, rfl⟩
    | some xs =>
      simp only
      by_cases c : (wds s).length ≤ 256
      · rw [if_pos c, if_pos c]; exact ⟨rfl, rfl⟩
      · rw [if_neg c, if_neg c]; exact ⟨rfl, rfl⟩
  · exact ⟨rfl, rfl⟩
theorem specNums (s : ByteArray) (hs : s.size ≤ 1048576) : p_spec_l01NRead R s = rd s ∧ r_spec_l01NRead R s = true := by
  have hP := wds_len s
  obtain ⟨k1, k2⟩ := specCut_eq s hs 44
  have hsp : c0_spec_l01NRead R s = wds s := k1
  have hr : r_spec_l01Cut R s 44 = true := k2
  unfold p_spec_l01NRead r_spec_l01NRead rd
  rw [hsp, hr]
  simp only [Nat.beq_refl]
  cases (s.toList == (ByteArray.mk #[110, 111, 110, 101]).toList)
  · simp only [cond_false]
    by_cases c : (wds s).length ≤ 256
    · have hrun := specList_run (wds s) (by omega) (wds s).length 0 [] (by omega) rfl
      have hc1 : c1_spec_l01NRead R s = W_spec_l01NRead_0 R ([], wds s, ((0 : Nat) : Int), [], false, ()) := by
        unfold c1_spec_l01NRead
        rw [hsp]; rfl
      rw [List.drop_zero] at hrun
      rw [hrun] at hc1
      rw [hc1, df (show ¬ ((wds s).length : Int) > 256 by omega)]
      cases mapG (wds s) with
      | none => exact ⟨rfl, rfl⟩
      | some xs => simp only; rw [if_pos c]; exact ⟨rfl, rfl⟩
    · rw [dt (show ((wds s).length : Int) > 256 by omega)]
      cases mapG (wds s) with
      | none => exact ⟨rfl, rfl⟩
      | some xs => simp only; rw [if_neg c]; exact ⟨rfl, rfl⟩
  · exact ⟨rfl, rfl⟩

/-! ### numbers by twos -/
/-! ### marks -/
end Go.Dv
