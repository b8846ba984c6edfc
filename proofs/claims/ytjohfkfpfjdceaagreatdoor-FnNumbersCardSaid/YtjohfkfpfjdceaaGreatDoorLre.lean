/- Numbers that are read, list for list: the library's way and the reference's give the same. -/
/- The plain law of FnExactReadPlaces. -/
import Derived.Test.YtjohfkfpfjdceaaGreatDoorWko
import Derived.Test.YtjohfkfpfjdceaaGreatDoorDr
import Derived.Test.YtjohfkfpfjdceaaGreatDoorWkb
import Derived.Test.YtjohfkfpfjdceaaGreatDoorZa
import Derived.Test.YtjohfkfpfjdceaaGreatDoorQd
import Derived.Test.YtjohfkfpfjdceaaGreatDoorLra
import Derived.Test.YtjohfkfpfjdceaaGreatDoorZkm
import Derived.Test.YtjohfkfpfjdceaaGreatDoorLrc

set_option linter.unusedSimpArgs false
namespace Go.Dv
open Go.Cv

def w0 : ByteArray := ByteArray.mk #[]
noncomputable def mapG : List ByteArray → Option (List Nat)
  | [] => some []
  | w :: r => match gw w with
    | none => none
    | some x => match mapG r with
      | none => none
      | some xs => some (x :: xs)

theorem implList_run (P : List ByteArray) (hP : P.length ≤ 2000000) (hs : ∀ i, i < P.length → (P.getD i w0).size ≤ 1048576) : ∀ (k i : Nat) (acc : List Nat), i + k = P.length → acc.length = i → i ≤ 256 →
    W_impl_readTexts_float32_k_0 R (256, (), acc, P, (P.length : Int), (i : Int), [], false, ()) = match mapG (P.drop i) with
      | some xs => if P.length ≤ 256 then some (.inr (acc ++ xs, [], false, ())) else some (.inl ((), false, ()))
      | none => some (.inl ((), false, ()))
  | 0, i, acc, h, ha, h256 => by
    have hd : P.drop i = [] := List.drop_eq_nil_of_le (by omega)
    rw [hd]
    show _ = if P.length ≤ 256 then some (Sum.inr (acc ++ [], [], false, ())) else some (Sum.inl ((), false, ()))
    rw [List.append_nil, if_pos (by omega)]
    refine runW_out ?_
    simp only [st_impl_readTexts_float32_k_0]
    rw [df (show ¬ (i : Int) < (P.length : Int) by omega)]
    simp only [Nat.beq_refl]
    rfl
  | k + 1, i, acc, h, ha, h256 => by
    have hl : i < P.length := by omega
    have hd : P.drop i = P.getD i w0 :: P.drop (i + 1) := by rw [List.drop_eq_getElem_cons hl, getD_lt hl]
    have q2 : decide (0 ≤ (i : Int)) = true := dt (by omega)
    have q3 : decide ((i : Int) < (P.length : Int)) = true := dt (by omega)
    have q4 : Nat.blt ((i : Int)).toNat P.length = true := ble_of hl
    have hg : P.getD ((i : Int)).toNat (ByteArray.mk #[]) = P.getD i w0 := rfl
    have hsz := hs i hl
    rw [hd]
    generalize hw : P.getD i w0 = w at hg hsz
    have hm : mapG (w :: P.drop (i + 1)) = match gw w with
      | none => none
      | some x => match mapG (P.drop (i + 1)) with
        | none => none
        | some xs => some (x :: xs) := rfl
    rw [hm]
    obtain ⟨r1, r2⟩ := readBits_eq w hsz
    cases hgw : gw w with
    | none =>
      rw [hgw] at r2
      have r2 : (p_impl_readBits R w).2 = false := r2
      refine runW_out ?_
      simp only [st_impl_readTexts_float32_k_0]
      rw [q3, q2, q4, hg, r1, r2]
      rfl
    | some x =>
      rw [hgw] at r2
      have r2 : p_impl_readBits R w = (x, true) := r2
      by_cases c : i = 256
      · have e : ((acc.length : Int) == 256) = true := by rw [ha, c]; rfl
        have hout : W_impl_readTexts_float32_k_0 R (256, (), acc, P, (P.length : Int), (i : Int), [], false, ()) = some (.inl ((), false, ())) := by
          refine runW_out ?_
          simp only [st_impl_readTexts_float32_k_0]
          rw [q3, q2, q4, hg, r1, r2, e]
          rfl
        rw [hout]
        simp only
        cases mapG (P.drop (i + 1)) with
        | none => rfl
        | some xs =>
          show _ = if P.length ≤ 256 then _ else _
          rw [if_neg (by omega)]
      · have e : ((acc.length : Int) == 256) = false := by
          rw [ha]; exact beq_eq_false_iff_ne.2 (by omega)
        have hst : st_impl_readTexts_float32_k_0 R 256 acc P (P.length : Int) (i : Int) [] false = some (.inl (256, (), acc ++ [x], P, (P.length : Int), ((i + 1 : Nat) : Int), [], false, ())) := by
          simp only [st_impl_readTexts_float32_k_0]
          have m1 : (acc.length + [x].length).ble 1073741824 = true := ble_of (by simp; omega)
          rw [q3, q2, q4, hg, r1, r2, e, wrap_succ (by omega)]
          simp only [Nat.beq_refl, m1]
          rfl
        have hon : W_impl_readTexts_float32_k_0 R (256, (), acc, P, (P.length : Int), (i : Int), [], false, ()) = W_impl_readTexts_float32_k_0 R (256, (), acc ++ [x], P, (P.length : Int), ((i + 1 : Nat) : Int), [], false, ()) := runW_on hst
        rw [hon, implList_run P hP hs k (i + 1) (acc ++ [x]) (by omega) (by simp; omega) (by omega)]
        simp only
        cases mapG (P.drop (i + 1)) with
        | none => rfl
        | some xs => simp only [List.append_assoc]; rfl
end Go.Dv


set_option linter.unusedSimpArgs false
namespace Go.Dv
open Go.Cv

theorem cutG_len (c : UInt8) : ∀ (r cur : List UInt8), (cutG c cur r).length ≤ r.length + 1 ∧ ∀ w ∈ cutG c cur r, w.length ≤ cur.length + r.length
  | [], cur => ⟨Nat.le_refl _, fun w hw => by
      have hw : w ∈ [cur] := hw
      rw [List.mem_singleton] at hw; subst hw; simp⟩
  | b :: r, cur => by
    by_cases h : b = c
    · subst h
      rw [cutG_hit]
      obtain ⟨h1, h2⟩ := cutG_len b r []
      refine ⟨by simp; omega, fun w hw => ?_⟩
      rcases List.mem_cons.1 hw with rfl | hw
      · simp
      · have := h2 w hw; simp at this ⊢; omega
    · rw [cutG_miss h]
      obtain ⟨h1, h2⟩ := cutG_len c r (cur ++ [b])
      refine ⟨by simp; omega, fun w hw => ?_⟩
      have := h2 w hw; simp at this ⊢; omega

/-- the words of a text -/
def wds (s : ByteArray) : List ByteArray := (cutG 44 [] s.data.toList).map ofL
theorem wds_len (s : ByteArray) : (wds s).length ≤ s.size + 1 := by
  unfold wds
  rw [List.length_map]
  exact (cutG_len 44 s.data.toList []).1
theorem wds_size (s : ByteArray) (i : Nat) (h : i < (wds s).length) : ((wds s).getD i w0).size ≤ s.size := by
  rw [getD_lt h]
  have hm : (wds s)[i] ∈ wds s := List.getElem_mem h
  unfold wds at hm
  rw [List.mem_map] at hm
  obtain ⟨w, hw, e⟩ := hm
  have h2 := (cutG_len 44 s.data.toList []).2 w hw
  have e2 : ((wds s)[i]).size = w.length := by
    rw [show (wds s)[i] = ofL w from e.symm]; rfl
  rw [e2]
  simpa using h2

/-- what both read -/
noncomputable def rd (s : ByteArray) : List Nat × Bool :=
  bif s.toList == (ByteArray.mk #[110, 111, 110, 101]).toList then ([], true) else
    match mapG (wds s) with
    | some xs => if (wds s).length ≤ 256 then (xs, true) else ([], false)
    | none => ([], false)
theorem implNums (s : ByteArray) (hs : s.size ≤ 1048576) : p_impl_ReadNumbers R s = rd s ∧ r_impl_ReadNumbers R s = true := by
  have hP := wds_len s
  have hsp : c0_impl_readTexts_float32_k R s 256 = wds s := split_cut s 44
  have hrun := implList_run (wds s) (by omega) (fun i hi => Nat.le_trans (wds_size s i hi) hs) (wds s).length 0 [] (by omega) rfl (by omega)
  have hc1 : c1_impl_readTexts_float32_k R s 256 = W_impl_readTexts_float32_k_0 R (256, (), [], wds s, ((wds s).length : Int), ((0 : Nat) : Int), [], false, ()) := by
    unfold c1_impl_readTexts_float32_k
    rw [hsp]; rfl
  rw [List.drop_zero] at hrun
  rw [hrun] at hc1
  have hr : r_strings_Split R s (ByteArray.mk #[44]) = true := by
    unfold r_strings_Split
    rw [dt (show s.size < 4294967281 by omega)]; rfl
  unfold p_impl_ReadNumbers r_impl_ReadNumbers c0_impl_ReadNumbers p_impl_readTexts_float32_k r_impl_readTexts_float32_k rd
  rw [hc1, hr]
  simp only [Nat.beq_refl]
  cases (s.toList == (ByteArray.mk #[110, 111, 110, 101]).toList)
  · simp only [cond_false]
    cases mapG (wds s) with
    | none => exact ⟨rfl, rfl⟩
    | some xs =>
      simp only
      by_cases c : (wds s).length ≤ 256
      · rw [if_pos c, if_pos c]; exact ⟨rfl, rfl⟩
      · rw [if_neg c, if_neg c]; exact ⟨rfl, rfl⟩
  · exact ⟨rfl, rfl⟩
/-! ### numbers by twos -/
/-! ### marks -/
end Go.Dv
