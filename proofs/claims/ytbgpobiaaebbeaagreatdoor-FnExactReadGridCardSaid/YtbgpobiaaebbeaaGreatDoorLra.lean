/- Texts that are cut at a byte: the library's way and the reference's give the same parts. -/
import Derived.Test.YtbgpobiaaebbeaaGreatDoorLhd
import Derived.Test.YtbgpobiaaebbeaaGreatDoorWko
import Derived.Lib.SplitLaws
import Derived.Lib.IndexBytes

set_option linter.unusedSimpArgs false
namespace Go.Dv
open Go.Cv

def cutG (c : UInt8) : List UInt8 → List UInt8 → List (List UInt8)
  | cur, [] => [cur]
  | cur, b :: r => if b == c then cur :: cutG c [] r else cutG c (cur ++ [b]) r

theorem cutG_ne (c : UInt8) : ∀ (r cur : List UInt8), ∃ w ws, cutG c cur r = w :: ws
  | [], cur => ⟨cur, [], rfl⟩
  | b :: r, cur => by
    unfold cutG
    split
    · exact ⟨_, _, rfl⟩
    · exact cutG_ne c r _
theorem cutG_pre (c : UInt8) : ∀ (r cur w : List UInt8) (ws : List (List UInt8)), cutG c [] r = w :: ws → cutG c cur r = (cur ++ w) :: ws
  | [], cur, w, ws, h => by
    have h : [[]] = w :: ws := h
    cases h
    show [cur] = [cur ++ []]
    rw [List.append_nil]
  | b :: r, cur, w, ws, h => by
    unfold cutG at h ⊢
    split at h
    · rename_i hb
      cases h
      rw [if_pos hb, List.append_nil]
    · rename_i hb
      rw [if_neg hb]
      obtain ⟨w', ws', e⟩ := cutG_ne c r []
      have h1 := cutG_pre c r ([] ++ [b]) w' ws' e
      have h2 := cutG_pre c r (cur ++ [b]) w' ws' e
      rw [h1] at h
      cases h
      rw [h2, List.append_assoc]
      rfl

theorem cutG_hit (c : UInt8) (cur r : List UInt8) : cutG c cur (c :: r) = cur :: cutG c [] r := by rw [cutG, if_pos (by simp)]
theorem cutG_miss {b c : UInt8} (h : ¬ b = c) (cur r : List UInt8) : cutG c cur (b :: r) = cutG c (cur ++ [b]) r := by rw [cutG, if_neg (by simpa using h)]

theorem splitK_cut (c : UInt8) : ∀ (r : List UInt8), Lib.splitK [c] 0 (r.count c) r = cutG c [] r
  | [] => rfl
  | b :: r => by
    have ih := splitK_cut c r
    by_cases hb : b = c
    · subst hb
      have e : (b :: r).count b = r.count b + 1 := List.count_cons_self
      have hi : Lib.index (b :: r) [b] = 0 := by rw [Lib.index_one]; simp [Lib.indexByte]
      rw [e, cutG_hit, ← ih]
      show (if Lib.index (b :: r) [b] == -1 then [b :: r] else (b :: r).take ((Lib.index (b :: r) [b]).toNat + 0) :: Lib.splitK [b] 0 (r.count b) ((b :: r).drop ((Lib.index (b :: r) [b]).toNat + 1))) = _
      rw [hi]
      rfl
    · have e : (b :: r).count c = r.count c := List.count_cons_of_ne hb
      have hg : cutG c [] (b :: r) = cutG c [b] r := cutG_miss hb [] r
      obtain ⟨w, ws, hw⟩ := cutG_ne c r []
      rw [e, hg, cutG_pre c r [b] w ws hw]
      rw [hw] at ih
      have hi : Lib.index (b :: r) [c] = if Lib.index r [c] == -1 then -1 else Lib.index r [c] + 1 := by
        rw [Lib.index_one, Lib.index_one]
        show (if b == c then 0 else if Lib.indexByte r c == -1 then -1 else Lib.indexByte r c + 1) = _
        rw [if_neg (by simpa using hb)]
      cases hk : r.count c with
      | zero =>
        rw [hk] at ih
        have ih : [r] = w :: ws := ih
        cases ih
        rfl
      | succ k =>
        rw [hk] at ih
        unfold Lib.splitK at ih ⊢
        rw [hi]
        by_cases hm : Lib.index r [c] = -1
        · rw [hm] at ih ⊢
          have ih : [r] = w :: ws := ih
          cases ih
          rfl
        · have hge := Lib.indexByte_ge r c
          rw [← Lib.index_one] at hge
          obtain ⟨i, hi⟩ := Int.eq_ofNat_of_zero_le (show 0 ≤ Lib.index r [c] by omega)
          rw [hi] at ih ⊢
          have c1 : ((i : Int) == -1) = false := by simp
          have c2 : (((i : Int) + 1) == -1) = false := by simpa using (show ¬ (i : Int) + 1 = -1 by omega)
          have c3 : ((i : Int) + 1).toNat = i + 1 := by omega
          have c4 : ((i : Int)).toNat = i := rfl
          rw [c1] at ih ⊢
          simp only [Bool.false_eq_true, if_false, c4, Nat.add_zero] at ih
          simp only [Bool.false_eq_true, if_false, c2, c3, Nat.add_zero]
          cases ih
          rfl

def ofL (l : List UInt8) : ByteArray := ⟨l.toArray⟩
theorem ofL_data (t : ByteArray) : ofL t.data.toList = t := rfl
theorem sub_eq (t : ByteArray) (a b : Nat) : p_sub t a b = ofL ((t.data.toList.drop a).take (b - a)) := by
  unfold p_sub ofL
  apply ByteArray.ext
  apply Array.toList_inj.1
  simp [List.take_drop]

theorem split_cut (s : ByteArray) (c : UInt8) : p_strings_Split R s (ByteArray.mk #[c]) = (cutG c [] s.data.toList).map ofL := by
  have h := Lib.splitB_data (ByteArray.mk #[c]) 0 (Lib.countB s (ByteArray.mk #[c])) s
  have e : Lib.countB s (ByteArray.mk #[c]) = s.data.toList.count c := Lib.count_one c s.data.toList
  have h2 : (p_strings_Split R s (ByteArray.mk #[c])).map (·.data.toList) = cutG c [] s.data.toList := by
    unfold p_strings_Split
    rw [h, e]
    exact splitK_cut c s.data.toList
  rw [← h2, List.map_map]
  have : (ofL ∘ fun x : ByteArray => x.data.toList) = id := funext fun t => ofL_data t
  rw [this, List.map_id]

theorem byteAt_get (s : ByteArray) (i : Nat) (h : i < s.size) : ∃ b, s.data.toList[i]? = some b ∧ p_byteAt s (i : Int) = (b.toNat : Int) := by
  have h1 : i < s.data.toList.length := h
  refine ⟨s.data.toList[i], List.getElem?_eq_getElem h1, ?_⟩
  unfold p_byteAt
  simp [Array.getElem?_eq_getElem (show i < s.data.size from h), h]

theorem cut_run (s : ByteArray) (hs : s.size ≤ 1048576) (c : UInt8) : ∀ (k i fr : Nat) (acc : List ByteArray), i + k = s.size → fr ≤ i → acc.length ≤ i →
    W_spec_l01Cut_0 R (s, (c.toNat : Int), acc, (fr : Int), (i : Int), (), ()) = some (acc ++ (cutG c ((s.data.toList.drop fr).take (i - fr)) (s.data.toList.drop i)).map ofL, (), ())
  | 0, i, fr, acc, h, hf, ha => by
    have hi : i = s.size := by omega
    have hd : s.data.toList.drop i = [] := List.drop_eq_nil_of_le (by show s.size ≤ i; omega)
    have hs1 : st_spec_l01Cut_0 R s (c.toNat : Int) acc (fr : Int) (i : Int) = some (.inl (s, (c.toNat : Int), acc ++ [p_sub s fr i], ((i + 1 : Nat) : Int), ((i + 1 : Nat) : Int), (), ())) := by
      simp only [st_spec_l01Cut_0, Option.getD_some]
      have e1 : ((i : Int) == (s.size : Int)) = true := by simpa using (show (i : Int) = (s.size : Int) by omega)
      rw [wrap_succ (by omega), dt (show (i : Int) ≤ (s.size : Int) by omega), e1, dt (show 0 ≤ (fr : Int) by omega), dt (show (fr : Int) ≤ (i : Int) by omega), Nat.beq_refl, Nat.beq_refl, ble_of (by simp; omega)]
      rfl
    have hs2 : st_spec_l01Cut_0 R s (c.toNat : Int) (acc ++ [p_sub s fr i]) ((i + 1 : Nat) : Int) ((i + 1 : Nat) : Int) = some (.inr (acc ++ [p_sub s fr i], (), ())) := by
      simp only [st_spec_l01Cut_0]
      rw [df (show ¬ ((i + 1 : Nat) : Int) ≤ (s.size : Int) by omega), Nat.beq_refl]; rfl
    have h1 : W_spec_l01Cut_0 R (s, (c.toNat : Int), acc, (fr : Int), (i : Int), (), ()) = W_spec_l01Cut_0 R (s, (c.toNat : Int), acc ++ [p_sub s fr i], ((i + 1 : Nat) : Int), ((i + 1 : Nat) : Int), (), ()) := runW_on hs1
    have h2 : W_spec_l01Cut_0 R (s, (c.toNat : Int), acc ++ [p_sub s fr i], ((i + 1 : Nat) : Int), ((i + 1 : Nat) : Int), (), ()) = some (acc ++ [p_sub s fr i], (), ()) := runW_out hs2
    rw [h1, h2, hd, sub_eq]
    rfl
  | k + 1, i, fr, acc, h, hf, ha => by
    obtain ⟨b, hb1, hb2⟩ := byteAt_get s i (by omega)
    have hd : s.data.toList.drop i = b :: s.data.toList.drop (i + 1) := by
      have hl : i < s.data.toList.length := by show i < s.size; omega
      rw [List.drop_eq_getElem_cons hl]
      rw [List.getElem?_eq_getElem hl] at hb1
      cases hb1; rfl
    have e1 : ((i : Int) == (s.size : Int)) = false := by simpa using (show ¬ (i : Int) = (s.size : Int) by omega)
    by_cases hc : b = c
    · subst hc
      have e2 : ((b.toNat : Int) == (b.toNat : Int)) = true := by simp
      have hs1 : st_spec_l01Cut_0 R s (b.toNat : Int) acc (fr : Int) (i : Int) = some (.inl (s, (b.toNat : Int), acc ++ [p_sub s fr i], ((i + 1 : Nat) : Int), ((i + 1 : Nat) : Int), (), ())) := by
        simp only [st_spec_l01Cut_0, Option.getD_some]
        rw [wrap_succ (by omega), dt (show (i : Int) ≤ (s.size : Int) by omega), e1, dt (show 0 ≤ (i : Int) by omega), dt (show (i : Int) < (s.size : Int) by omega), hb2, e2, dt (show 0 ≤ (fr : Int) by omega), dt (show (fr : Int) ≤ (i : Int) by omega), Nat.beq_refl, Nat.beq_refl, ble_of (by simp; omega)]
        rfl
      have h1 : W_spec_l01Cut_0 R (s, (b.toNat : Int), acc, (fr : Int), (i : Int), (), ()) = W_spec_l01Cut_0 R (s, (b.toNat : Int), acc ++ [p_sub s fr i], ((i + 1 : Nat) : Int), ((i + 1 : Nat) : Int), (), ()) := runW_on hs1
      rw [h1, cut_run s hs b k (i + 1) (i + 1) (acc ++ [p_sub s fr i]) (by omega) (Nat.le_refl _) (by simp; omega), hd, sub_eq, Nat.sub_self, List.take_zero, List.append_assoc]
      rw [cutG_hit, List.map_cons]
      rfl
    · have e2 : ((b.toNat : Int) == (c.toNat : Int)) = false := by
        have : ¬ (b.toNat : Int) = (c.toNat : Int) := fun h => hc (UInt8.toNat_inj.1 (by omega))
        simpa using this
      have hs1 : st_spec_l01Cut_0 R s (c.toNat : Int) acc (fr : Int) (i : Int) = some (.inl (s, (c.toNat : Int), acc, (fr : Int), ((i + 1 : Nat) : Int), (), ())) := by
        simp only [st_spec_l01Cut_0, Option.getD_some]
        rw [wrap_succ (by omega), dt (show (i : Int) ≤ (s.size : Int) by omega), e1, dt (show 0 ≤ (i : Int) by omega), dt (show (i : Int) < (s.size : Int) by omega), hb2, e2]
        simp only [Nat.beq_refl]
        rfl
      have h1 : W_spec_l01Cut_0 R (s, (c.toNat : Int), acc, (fr : Int), (i : Int), (), ()) = W_spec_l01Cut_0 R (s, (c.toNat : Int), acc, (fr : Int), ((i + 1 : Nat) : Int), (), ()) := runW_on hs1
      have e3 : (s.data.toList.drop fr).take (i + 1 - fr) = (s.data.toList.drop fr).take (i - fr) ++ [b] := by
        rw [show i + 1 - fr = (i - fr) + 1 by omega, List.take_add_one, List.getElem?_drop, show fr + (i - fr) = i by omega, hb1]
        rfl
      rw [h1, cut_run s hs c k (i + 1) fr acc (by omega) (by omega) (by omega), hd, e3]
      rw [cutG_miss hc]

theorem specCut_eq (s : ByteArray) (hs : s.size ≤ 1048576) (c : UInt8) : p_spec_l01Cut R s (c.toNat : Int) = (cutG c [] s.data.toList).map ofL ∧ r_spec_l01Cut R s (c.toNat : Int) = true := by
  have h := cut_run s hs c s.size 0 0 [] (by omega) (Nat.le_refl _) (Nat.le_refl _)
  have hc : c0_spec_l01Cut R s (c.toNat : Int) = some ((cutG c [] s.data.toList).map ofL, (), ()) := h
  unfold p_spec_l01Cut r_spec_l01Cut
  rw [hc]
  simp only [Option.getD_some, Option.isSome_some, Nat.beq_refl]
  exact ⟨trivial, rfl⟩
end Go.Dv
