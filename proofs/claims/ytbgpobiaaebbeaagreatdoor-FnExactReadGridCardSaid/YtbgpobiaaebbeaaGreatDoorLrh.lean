/- The plain law of FnExactReadGrid. -/
import Derived.Test.YtbgpobiaaebbeaaGreatDoorLre
import Derived.Test.YtbgpobiaaebbeaaGreatDoorLrg
import Derived.Test.YtbgpobiaaebbeaaGreatDoorWks
import Derived.Test.YtbgpobiaaebbeaaGreatDoorLhd

set_option linter.unusedSimpArgs false
namespace Go.Dv
open Go.Cv

/-! ### a text cut at its first mark -/
theorem cutG_no (c : UInt8) : ∀ (r cur : List UInt8), c ∉ r → cutG c cur r = [cur ++ r]
  | [], cur, _ => by rw [List.append_nil]; rfl
  | b :: r, cur, h => by
    have hb : ¬ b = c := fun e => h (by rw [e]; simp)
    rw [cutG_miss hb, cutG_no c r _ (fun k => h (by simp [k])), List.append_assoc]; rfl
theorem cutG_at (c : UInt8) : ∀ (A B cur : List UInt8), c ∉ A → cutG c cur (A ++ c :: B) = (cur ++ A) :: cutG c [] B
  | [], B, cur, _ => by rw [List.append_nil]; exact cutG_hit c cur B
  | a :: A, B, cur, h => by
    have ha : ¬ a = c := fun e => h (by rw [e]; simp)
    show cutG c cur (a :: (A ++ c :: B)) = _
    rw [cutG_miss ha, cutG_at c A B _ (fun k => h (by simp [k])), List.append_assoc]; rfl
theorem idx_cases (c : UInt8) : ∀ L : List UInt8, (c ∉ L ∧ Lib.indexByte L c = -1) ∨ ∃ A B, L = A ++ c :: B ∧ c ∉ A ∧ Lib.indexByte L c = (A.length : Int)
  | [] => .inl ⟨by simp, rfl⟩
  | b :: r => by
    by_cases hb : b = c
    · subst hb
      exact .inr ⟨[], r, rfl, by simp, by unfold Lib.indexByte; rw [if_pos (by simp)]; rfl⟩
    · have e : Lib.indexByte (b :: r) c = if Lib.indexByte r c == -1 then -1 else Lib.indexByte r c + 1 := by
        rw [Lib.indexByte, if_neg (by simpa using hb)]
      have hb' : ¬ c = b := fun h => hb h.symm
      rcases idx_cases c r with ⟨h1, h2⟩ | ⟨A, B, h1, h2, h3⟩
      · exact .inl ⟨by simp [hb', h1], by rw [e, h2]; rfl⟩
      · refine .inr ⟨b :: A, B, by rw [h1]; rfl, by simp [hb', h2], ?_⟩
        rw [e, h3, if_neg (by simp)]
        simp
theorem cut_cases (c : UInt8) (L : List UInt8) : (c ∉ L ∧ Lib.cut L [c] = (L, [], false)) ∨ ∃ A B, L = A ++ c :: B ∧ c ∉ A ∧ Lib.cut L [c] = (A, B, true) := by
  rcases idx_cases c L with ⟨h1, h2⟩ | ⟨A, B, h1, h2, h3⟩
  · refine .inl ⟨h1, ?_⟩
    unfold Lib.cut
    rw [Lib.index_one, h2, if_neg (by decide)]
  · refine .inr ⟨A, B, h1, h2, ?_⟩
    unfold Lib.cut
    rw [Lib.index_one, h3, if_pos (by omega), h1]
    have e : ((A.length : Int)).toNat = A.length := rfl
    rw [e]
    simp

/-- what is read as numbers holds no such mark -/
theorem hv_mem : ∀ (l : List UInt8) (n m : Nat), hv n l = some m → ∀ b ∈ l, hexv b ≠ none
  | [], _, _, _, b, hb => by simp at hb
  | x :: r, n, m, h, b, hb => by
    obtain ⟨d, hd, h⟩ := hv_cons h
    rcases List.mem_cons.1 hb with rfl | hb
    · rw [hd]; simp
    · exact hv_mem r _ _ h b hb
theorem mem_cutG (c : UInt8) : ∀ (r cur : List UInt8) (b : UInt8), b ∈ cur ++ r → b = c ∨ ∃ w ∈ cutG c cur r, b ∈ w
  | [], cur, b, h => .inr ⟨cur, by show cur ∈ [cur]; simp, by simpa using h⟩
  | x :: r, cur, b, h => by
    by_cases hx : x = c
    · subst hx
      rw [cutG_hit]
      simp only [List.mem_append, List.mem_cons] at h
      rcases h with h | rfl | h
      · exact .inr ⟨cur, by simp, h⟩
      · exact .inl rfl
      · rcases mem_cutG x r [] b (by simpa using h) with h | ⟨w, h1, h2⟩
        · exact .inl h
        · exact .inr ⟨w, by simp [h1], h2⟩
    · rw [cutG_miss hx]
      exact mem_cutG c r (cur ++ [x]) b (by simpa using h)
theorem mapG_mem : ∀ (P : List ByteArray) (xs : List Nat), mapG P = some xs → ∀ w ∈ P, gw w ≠ none
  | [], _, _, w, hw => by simp at hw
  | x :: r, xs, h, w, hw => by
    unfold mapG at h
    split at h
    · cases h
    · rename_i y hy
      split at h
      · cases h
      · rename_i ys hys
        rcases List.mem_cons.1 hw with rfl | hw
        · rw [hy]; simp
        · exact mapG_mem r ys hys w hw
theorem rd_no59 (s : ByteArray) (h : (rd s).2 = true) : (59 : UInt8) ∉ s.data.toList := by
  intro hm
  unfold rd at h
  cases hn : (s.toList == (ByteArray.mk #[110, 111, 110, 101]).toList)
  · rw [hn] at h
    simp only [cond_false] at h
    cases hg : mapG (wds s) with
    | none => rw [hg] at h; cases h
    | some xs =>
      rcases mem_cutG 44 s.data.toList [] 59 (by simpa using hm) with h1 | ⟨w, h1, h2⟩
      · cases h1
      · have h3 := mapG_mem _ _ hg (ofL w) (by unfold wds; exact List.mem_map_of_mem h1)
        refine h3 ?_
        unfold gw
        split
        · have e : (ofL w).data.toList = w := by simp [ofL]
          rw [e]
          cases hh : hv 0 w with
          | none => rfl
          | some n => exact absurd (by decide) (hv_mem w 0 n hh 59 h2)
        · rfl
  · rw [toList_eq_dec] at hn
    have hn := of_decide_eq_true hn
    subst hn
    revert hm; decide
theorem rd_empty : rd (ofL []) = ([], false) := by
  have h1 : ((ofL []).toList == (ByteArray.mk #[110, 111, 110, 101]).toList) = false := by
    rw [toList_eq_dec]; exact df (by decide)
  have h2 : wds (ofL []) = [ofL []] := rfl
  have h3 : gw (ofL []) = none := by unfold gw; rw [if_neg (by decide)]
  unfold rd
  rw [h1, h2]
  unfold mapG
  rw [h3]; rfl

/-! ### lists in decimal -/
noncomputable def rl (s : ByteArray) : List Int × Bool :=
  bif s.toList == (ByteArray.mk #[110, 111, 110, 101]).toList then ([], true) else
    match mapD (wds s) with
    | some xs => if (wds s).length ≤ 64 then (xs, true) else ([], false)
    | none => ([], false)
theorem implInts (s : ByteArray) (hs : s.size ≤ 1048576) : p_impl_ReadList R s = rl s ∧ r_impl_ReadList R s = true := by
  have hP := wds_len s
  have hsp : c0_impl_readTexts_int64_k R s 64 = wds s := split_cut s 44
  have hrun := implD_run (wds s) (by omega) (fun i hi => Nat.le_trans (wds_size s i hi) hs) (wds s).length 0 [] (by omega) rfl (by omega)
  have hc1 : c1_impl_readTexts_int64_k R s 64 = W_impl_readTexts_int64_k_0 R (64, (), [], wds s, ((wds s).length : Int), ((0 : Nat) : Int), [], false, ()) := by
    unfold c1_impl_readTexts_int64_k
    rw [hsp]; rfl
  rw [List.drop_zero] at hrun
  rw [hrun] at hc1
  have hr : r_strings_Split R s (ByteArray.mk #[44]) = true := by
    unfold r_strings_Split
    rw [dt (show s.size < 4294967281 by omega)]; rfl
  unfold p_impl_ReadList r_impl_ReadList c0_impl_ReadList p_impl_readTexts_int64_k r_impl_readTexts_int64_k rl
  rw [hc1, hr]
  simp only [Nat.beq_refl]
  cases (s.toList == (ByteArray.mk #[110, 111, 110, 101]).toList)
  · simp only [cond_false]
    cases mapD (wds s) with
    | none => exact ⟨rfl, rfl⟩
    | some xs =>
      simp only
      by_cases c : (wds s).length ≤ 64
      · rw [if_pos c, if_pos c]; exact ⟨rfl, rfl⟩
      · rw [if_neg c, if_neg c]; exact ⟨rfl, rfl⟩
  · exact ⟨rfl, rfl⟩
theorem specInts (s : ByteArray) (hs : s.size ≤ 1048576) : p_spec_l01Numbers R s = rl s ∧ r_spec_l01Numbers R s = true := by
  have hP := wds_len s
  obtain ⟨k1, k2⟩ := specCut_eq s hs 44
  have hsp : c0_spec_l01Numbers R s = wds s := k1
  have hr : r_spec_l01Cut R s 44 = true := k2
  unfold p_spec_l01Numbers r_spec_l01Numbers rl
  rw [hsp, hr]
  simp only [Nat.beq_refl]
  cases (s.toList == (ByteArray.mk #[110, 111, 110, 101]).toList)
  · simp only [cond_false]
    by_cases c : (wds s).length ≤ 64
    · have hrun := specD_run (wds s) (by omega) (wds s).length 0 [] (by omega) rfl
      have hc1 : c1_spec_l01Numbers R s = W_spec_l01Numbers_0 R ([], wds s, ((0 : Nat) : Int), [], false, ()) := by
        unfold c1_spec_l01Numbers
        rw [hsp]; rfl
      rw [List.drop_zero] at hrun
      rw [hrun] at hc1
      rw [hc1, df (show ¬ ((wds s).length : Int) > 64 by omega)]
      cases mapD (wds s) with
      | none => exact ⟨rfl, rfl⟩
      | some xs => simp only; rw [if_pos c]; exact ⟨rfl, rfl⟩
    · rw [dt (show ((wds s).length : Int) > 64 by omega)]
      cases mapD (wds s) with
      | none => exact ⟨rfl, rfl⟩
      | some xs => simp only; rw [if_neg c]; exact ⟨rfl, rfl⟩
  · exact ⟨rfl, rfl⟩

/-! ### grids -/
/-- a grid out of its sides and its heights -/
noncomputable def mkG (n : List Int × Bool) (l : List Nat × Bool) : Int × Int × List Nat × Bool :=
  bif !n.2 then (0, 0, [], false) else bif !l.2 then (0, 0, [], false) else bif (n.1.length : Int) != 2 then (0, 0, [], false) else
    bif !p_spec_l06Is R (n.1.getD 0 0) (n.1.getD 1 0) l.1 then (0, 0, [], false) else (n.1.getD 0 0, n.1.getD 1 0, l.1, true)
theorem mkG_len (n : List Int × Bool) (l : List Nat × Bool) (h : l.1.length ≤ 256) : (mkG n l).2.2.1.length ≤ 256 := by
  unfold mkG
  cases n.2
  · exact Nat.zero_le _
  · cases l.2
    · exact Nat.zero_le _
    · cases ((n.1.length : Int) != 2)
      · cases p_spec_l06Is R (n.1.getD 0 0) (n.1.getD 1 0) l.1
        · exact Nat.zero_le _
        · exact h
      · exact Nat.zero_le _

theorem readGrid_eq (s : ByteArray) (hs : s.size ≤ 1048576) : p_impl_ReadGrid R s = p_spec_ReadGrid R s ∧ r_impl_ReadGrid R s = true ∧ r_spec_ReadGrid R s = true ∧ (p_spec_ReadGrid R s).2.2.1.length ≤ 256 := by
  have hss : s.data.toList.length = s.size := rfl
  have hcut : c0_impl_ReadGrid R s = (ofL (Lib.cut s.data.toList [59]).1, ofL (Lib.cut s.data.toList [59]).2.1, (Lib.cut s.data.toList [59]).2.2) := rfl
  have hrc : r_strings_Cut R s (ByteArray.mk #[59]) = true := dt (by omega)
  obtain ⟨k1, k2⟩ := specCut_eq s hs 59
  have hk : c0_spec_l08ReadGrid R s = (cutG 59 [] s.data.toList).map ofL := k1
  have hk2 : r_spec_l01Cut R s 59 = true := k2
  -- the program's side
  have himpl : ∀ (A B : List UInt8) (f : Bool), Lib.cut s.data.toList [59] = (A, B, f) → A.length ≤ 1048576 → B.length ≤ 1048576 →
      p_impl_ReadGrid R s = mkG (rl (ofL A)) (rd (ofL B)) ∧ r_impl_ReadGrid R s = true := fun A B f hAB hA hB => by
    obtain ⟨i1, i2⟩ := implInts (ofL A) hA
    obtain ⟨j1, j2⟩ := implNums (ofL B) hB
    have hc0 : c0_impl_ReadGrid R s = (ofL A, ofL B, f) := by rw [hcut, hAB]
    have hc1 : c1_impl_ReadGrid R s = rl (ofL A) := by unfold c1_impl_ReadGrid; rw [hc0]; exact i1
    have hc2 : c2_impl_ReadGrid R s = rd (ofL B) := by unfold c2_impl_ReadGrid; rw [hc0]; exact j1
    have hlen := rd_len (ofL B)
    unfold p_impl_ReadGrid r_impl_ReadGrid mkG
    rw [hc1, hc2, hc0, hrc]
    simp only [i2, j2]
    generalize rl (ofL A) = n
    generalize rd (ofL B) = l at hlen
    obtain ⟨n1, n2⟩ := n
    obtain ⟨l1, l2⟩ := l
    simp only at hlen ⊢
    cases n2
    · exact ⟨rfl, rfl⟩
    · cases l2
      · exact ⟨rfl, rfl⟩
      · by_cases c : n1.length = 2
        · have e2 : ((n1.length : Int) != 2) = false := by rw [c]; rfl
          obtain ⟨g1, g2, g3, _⟩ := valid_eq (n1.getD 0 0) (n1.getD 1 0) l1 (by omega)
          have b0 : Nat.blt 0 n1.length = true := by rw [c]; rfl
          have b1 : Nat.blt 1 n1.length = true := by rw [c]; rfl
          rw [e2, g1, g2, b0, b1, dt (show (0 : Int) < (n1.length : Int) by omega), dt (show (1 : Int) < (n1.length : Int) by omega)]
          simp only [Nat.beq_refl]
          cases p_spec_l06Is R (n1.getD 0 0) (n1.getD 1 0) l1 <;> refine ⟨?_, ?_⟩ <;> first | trivial | rfl
        · have e2 : ((n1.length : Int) != 2) = true := by rw [bne_iff_ne]; omega
          rw [e2]; exact ⟨rfl, rfl⟩
  -- the reference's side, where there are two parts
  have hspec : ∀ (A B : List UInt8), cutG 59 [] s.data.toList = [A, B] → A.length ≤ 1048576 → B.length ≤ 1048576 →
      p_spec_ReadGrid R s = mkG (rl (ofL A)) (rd (ofL B)) ∧ r_spec_ReadGrid R s = true := fun A B hAB hA hB => by
    obtain ⟨i1, i2⟩ := specInts (ofL A) hA
    obtain ⟨j1, j2⟩ := specNums (ofL B) hB
    have hc0 : c0_spec_l08ReadGrid R s = [ofL A, ofL B] := by rw [hk, hAB]; rfl
    have hc1 : c1_spec_l08ReadGrid R s = rl (ofL A) := by unfold c1_spec_l08ReadGrid; rw [hc0]; exact i1
    have hc2 : c2_spec_l08ReadGrid R s = rd (ofL B) := by unfold c2_spec_l08ReadGrid; rw [hc0]; exact j1
    have hlen := rd_len (ofL B)
    have i2' : r_spec_l01Numbers R ([ofL A, ofL B].getD 0 (ByteArray.mk #[])) = true := i2
    have j2' : r_spec_l01NRead R ([ofL A, ofL B].getD 1 (ByteArray.mk #[])) = true := j2
    unfold p_spec_ReadGrid r_spec_ReadGrid c0_spec_ReadGrid p_spec_l08ReadGrid r_spec_l08ReadGrid c3_spec_l08ReadGrid mkG
    rw [hc1, hc2, hc0, hk2, i2', j2']
    generalize rl (ofL A) = n
    generalize rd (ofL B) = l at hlen
    obtain ⟨n1, n2⟩ := n
    obtain ⟨l1, l2⟩ := l
    simp only at hlen ⊢
    cases n2
    · exact ⟨rfl, rfl⟩
    · cases l2
      · exact ⟨rfl, rfl⟩
      · by_cases c : n1.length = 2
        · have e2 : ((n1.length : Int) != 2) = false := by rw [c]; rfl
          obtain ⟨g1, g2, g3, _⟩ := valid_eq (n1.getD 0 0) (n1.getD 1 0) l1 (by omega)
          have b0 : Nat.blt 0 n1.length = true := by rw [c]; rfl
          have b1 : Nat.blt 1 n1.length = true := by rw [c]; rfl
          unfold p_spec_l06Give r_spec_l06Give
          rw [e2, g3, b0, b1, dt (show (0 : Int) < (n1.length : Int) by omega), dt (show (1 : Int) < (n1.length : Int) by omega)]
          simp only [Nat.beq_refl]
          cases p_spec_l06Is R (n1.getD 0 0) (n1.getD 1 0) l1 <;> refine ⟨?_, ?_⟩ <;> first | trivial | rfl
        · have e2 : ((n1.length : Int) != 2) = true := by rw [bne_iff_ne]; omega
          rw [e2]; exact ⟨rfl, rfl⟩
  -- where there are more or fewer
  have hfew : (cutG 59 [] s.data.toList).length ≠ 2 → p_spec_ReadGrid R s = (0, 0, [], false) ∧ r_spec_ReadGrid R s = true := fun hne => by
    have e2 : (((c0_spec_l08ReadGrid R s).length : Int) != 2) = true := by
      rw [hk, List.length_map, bne_iff_ne]; omega
    unfold p_spec_ReadGrid r_spec_ReadGrid c0_spec_ReadGrid p_spec_l08ReadGrid r_spec_l08ReadGrid
    rw [e2, hk2]
    exact ⟨rfl, rfl⟩
  have hbad : ∀ n : List Int × Bool, ∀ l : List Nat × Bool, l.2 = false → mkG n l = (0, 0, [], false) := fun n l h => by
    unfold mkG
    rw [h]
    cases n.2 <;> rfl
  rcases cut_cases 59 s.data.toList with ⟨h1, h2⟩ | ⟨A, B, h1, h2, h3⟩
  · obtain ⟨a1, a2⟩ := himpl _ _ _ h2 (by omega) (by simp)
    obtain ⟨b1, b2⟩ := hfew (by rw [cutG_no 59 _ _ h1]; simp)
    rw [a1, b1, rd_empty]
    exact ⟨hbad _ _ rfl, a2, b2, Nat.zero_le _⟩
  · have hAB : A.length + B.length ≤ 1048576 := by
      have : s.data.toList.length = A.length + (B.length + 1) := by rw [h1]; simp
      omega
    obtain ⟨a1, a2⟩ := himpl _ _ _ h3 (by omega) (by omega)
    by_cases hB : (59 : UInt8) ∈ B
    · have hlen : (cutG 59 [] s.data.toList).length ≠ 2 := by
        rw [h1, cutG_at 59 A B [] h2]
        rcases idx_cases 59 B with ⟨k1, _⟩ | ⟨C, D, k1, k2, _⟩
        · exact absurd hB k1
        · rw [k1, cutG_at 59 C D [] k2]
          obtain ⟨w, ws, e⟩ := cutG_ne 59 D []
          rw [e]; simp
      obtain ⟨b1, b2⟩ := hfew hlen
      have hf : (rd (ofL B)).2 = false := by
        cases h : (rd (ofL B)).2
        · rfl
        · have := rd_no59 (ofL B) h
          exact absurd (by simpa [ofL] using hB) this
      rw [a1, b1]
      exact ⟨hbad _ _ hf, a2, b2, Nat.zero_le _⟩
    · obtain ⟨b1, b2⟩ := hspec A B (by rw [h1, cutG_at 59 A B [] h2, cutG_no 59 B [] hB]; rfl) (by omega) (by omega)
      rw [a1, b1]
      exact ⟨rfl, a2, b2, mkG_len _ _ (rd_len _)⟩

/-! ### marks -/
@[irreducible] def fkm (i : Nat) : Nat := R.ofi .f32 ((i + 1 : Nat) : Int)
def mkF (l : List Nat) : Nat → List Nat
  | 0 => l
  | i + 1 => (mkF l i).set i (fkm i)
theorem mkF_length (l : List Nat) : ∀ i, (mkF l i).length = l.length
  | 0 => rfl
  | i + 1 => by rw [mkF, List.length_set, mkF_length l i]
theorem mkF_get (l : List Nat) : ∀ i j, j < i → i ≤ l.length → (mkF l i).getD j 0 = fkm j
  | 0, j, h, _ => by omega
  | i + 1, j, h, hi => by
    rw [mkF]
    rcases Nat.eq_or_lt_of_le (Nat.le_of_lt_succ h) with rfl | h'
    · rw [List.getD_eq_getElem?_getD, List.getElem?_set_self (by rw [mkF_length]; omega), Option.getD_some]
    · have := mkF_get l i j h' (by omega)
      rw [List.getD_eq_getElem?_getD, List.getElem?_set_ne (by omega), ← List.getD_eq_getElem?_getD]
      exact this
theorem markF (l : List Nat) (h : l.length ≤ 256) : p_laws_markFloat32S R l 1 = (((l.length + 1 : Nat) : Int), mkF l l.length) ∧ r_laws_markFloat32S R l 1 = true := by
  have hw := runW_count (step := fun x => st_laws_markFloat32S_0 R x.1 x.2.1 x.2.2.1 x.2.2.2.1) (n := l.length) (mk := fun i => (mkF l i, ((i + 1 : Nat) : Int), (i : Int), 0, ())) (o := (((l.length + 1 : Nat) : Int), 0, mkF l l.length, ()))
    (fun i hi => by
      simp only [st_laws_markFloat32S_0]
      have e0 : ((i : Int)).toNat = i := rfl
      have e1 : IntKind.i64.wrap (((i + 1 : Nat) : Int) + 1) = ((i + 1 + 1 : Nat) : Int) := wrap_succ (by omega)
      have b1 : Nat.blt i l.length = true := ble_of hi
      have e2 : R.ofi .f32 ((i + 1 : Nat) : Int) = fkm i := by unfold fkm; rfl
      rw [e0, e1, wrap_succ (by omega), e2]
      simp only [List.length_set, mkF_length]
      rw [dt (show (i : Int) < (l.length : Int) by omega), dt (show 0 ≤ (i : Int) by omega), b1, Nat.beq_refl]
      rfl)
    (by
      simp only [st_laws_markFloat32S_0]
      rw [mkF_length, df (show ¬ (l.length : Int) < (l.length : Int) by omega)]; rfl)
  have hc : c0_laws_markFloat32S R l 1 = some (((l.length + 1 : Nat) : Int), 0, mkF l l.length, ()) := hw
  unfold p_laws_markFloat32S r_laws_markFloat32S
  rw [hc, Nat.beq_refl]
  exact ⟨rfl, rfl⟩
theorem ofi_self2 (k : Nat) (h : k < 512) : R.cmp .neq .f32 (R.ofi .f32 (k : Int)) (R.ofi .f32 (k : Int)) = false := by
  have : ∀ n : Fin 512, R.cmp .neq .f32 (R.ofi .f32 ((n.1 : Nat) : Int)) (R.ofi .f32 ((n.1 : Nat) : Int)) = false := by decide +kernel
  exact this ⟨k, h⟩
theorem heldF (l : List Nat) (h : l.length ≤ 256) : p_laws_heldFloat32S R (mkF l l.length) 1 = ((l.length + 1 : Nat) : Int) ∧ r_laws_heldFloat32S R (mkF l l.length) 1 = true := by
  have hw := runW_count (step := fun x => st_laws_heldFloat32S_0 R x.1 x.2.1 x.2.2.1 x.2.2.2.1) (n := l.length) (mk := fun i => (mkF l l.length, ((i + 1 : Nat) : Int), (i : Int), 0, ())) (o := .inr (((l.length + 1 : Nat) : Int), 0, ()))
    (fun i hi => by
      simp only [st_laws_heldFloat32S_0]
      have e0 : ((i : Int)).toNat = i := rfl
      have e1 : IntKind.i64.wrap (((i + 1 : Nat) : Int) + 1) = ((i + 1 + 1 : Nat) : Int) := wrap_succ (by omega)
      rw [e0, e1, wrap_succ (by omega), mkF_get l l.length i hi (Nat.le_refl _)]
      simp only [mkF_length]
      have c1 : R.cmp .neq .f32 (fkm i) (R.ofi .f32 ((i + 1 : Nat) : Int)) = false := by unfold fkm; exact ofi_self2 _ (by omega)
      rw [dt (show (i : Int) < (l.length : Int) by omega), dt (show 0 ≤ (i : Int) by omega), c1]
      rfl)
    (by
      simp only [st_laws_heldFloat32S_0]
      rw [mkF_length, df (show ¬ (l.length : Int) < (l.length : Int) by omega)]; rfl)
  have hc : c0_laws_heldFloat32S R (mkF l l.length) 1 = some (.inr (((l.length + 1 : Nat) : Int), 0, ())) := hw
  unfold p_laws_heldFloat32S r_laws_heldFloat32S
  rw [hc]
  exact ⟨rfl, rfl⟩

theorem law_ReadGrid (s : ByteArray) : r_laws_FnExactReadGrid R s = true ∧ p_laws_FnExactReadGrid R s = true := by
  unfold r_laws_FnExactReadGrid p_laws_FnExactReadGrid c3_laws_FnExactReadGrid c2_laws_FnExactReadGrid c1_laws_FnExactReadGrid c0_laws_FnExactReadGrid
  by_cases c : (s.size : Int) > 1048576
  · rw [dt c]; exact ⟨rfl, rfl⟩
  · rw [df c]
    obtain ⟨e1, e2, e3, e4⟩ := readGrid_eq s (by omega)
    rw [e1, e2, e3]
    generalize p_spec_ReadGrid R s = q at e4
    obtain ⟨a, b, l, ok⟩ := q
    have e4 : l.length ≤ 256 := e4
    obtain ⟨m1, m2⟩ := markF l e4
    obtain ⟨h1, h2⟩ := heldF l e4
    obtain ⟨q1, q2⟩ := eqGrid_refl a b l (by omega)
    have hb : ∀ b : Bool, (b != b) = false := fun b => by cases b <;> rfl
    have hn : ∀ z : Int, (z != z) = false := fun z => by simp
    have hmg : p_laws_markGrid R a b l 1 = (((l.length + 1 : Nat) : Int), mkF l l.length) := m1
    have hrg : r_laws_markGrid R a b l 1 = true := by unfold r_laws_markGrid; rw [m2, Nat.beq_refl]; rfl
    have hneg : decide (((l.length + 1 : Nat) : Int) < 0) = false := df (by omega)
    have hhg : p_laws_heldGrid R a b (mkF l l.length) 1 = ((l.length + 1 : Nat) : Int) := by
      unfold p_laws_heldGrid c0_laws_heldGrid
      rw [h1, hneg]; rfl
    have hhr : r_laws_heldGrid R a b (mkF l l.length) 1 = true := by unfold r_laws_heldGrid; rw [h2]; rfl
    simp only [hmg, hrg, hhg, hhr, hb, hn, q1, q2, Nat.beq_refl, mkF_length, hneg]
    exact ⟨rfl, rfl⟩
end Go.Dv
