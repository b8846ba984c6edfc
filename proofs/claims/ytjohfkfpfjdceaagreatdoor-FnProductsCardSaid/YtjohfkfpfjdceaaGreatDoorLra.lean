/- Texts that are cut at a byte: the library's way and the reference's give the same parts. -/
import Derived.Test.YtjohfkfpfjdceaaGreatDoorZli
import Derived.Test.YtjohfkfpfjdceaaGreatDoorZko
import Derived.Lib.SplitLaws
import Derived.Lib.IndexBytes

set_option linter.unusedSimpArgs false
namespace Go.Dv
open Go.Cv

def cutG (c : UInt8) : List UInt8 → List UInt8 → List (List UInt8)
  | cur, [] => [cur]
  | cur, b :: r => if b == c then cur :: cutG c [] r else cutG c (cur ++ [b]) r

theorem cutG_ne (c : UInt8) : ∀ (r cur : List UInt8), ∃ w ws, cutG c cur r = w :: ws
  | [], cur => ⟨cur, [], rfl⟩
  | b :: r, cur => by
    unfold cutG
    split
    · exact ⟨_, _, rfl⟩
    · exact cutG_ne c r _
theorem cutG_pre (c : UInt8) : ∀ (r cur w : List UInt8) (ws : List (List UInt8)), cutG c [] r = w :: ws → cutG c cur r = (cur ++ w) :: ws
  | [], cur, w, ws, h => by
    have h : [[]] = w :: ws := h
    cases h
    show [cur] = [cur ++ []]
    rw [List.append_nil]
  | b :: r, cur, w, ws, h => by
    unfold cutG at h ⊢
    split at h
    · rename_i hb
      cases h
      rw [if_pos hb, List.append_nil]
    · rename_i hb
      rw [if_neg hb]
      obtain ⟨w', ws', e⟩ := cutG_ne c r []
      have h1 := cutG_pre c r ([] ++ [b]) w' ws' e
      have h2 := cutG_pre c r (cur ++ [b]) w' ws' e
      rw [h1] at h
      cases h
      rw [h2, List.append_assoc]
      rfl

theorem cutG_hit (c : UInt8) (cur r : List UInt8) : cutG c cur (c :: r) = cur :: cutG c [] r := by rw [cutG, if_pos (by simp)]
theorem cutG_miss {b c : UInt8} (h : ¬ b = c) (cur r : List UInt8) : cutG c cur (b :: r) = cutG c (cur ++ [b]) r := by rw [cutG, if_neg (by simpa using h)]

theorem splitK_cut (c : UInt8) : ∀ (r : List UInt8), Lib.splitK [c] 0 (r.count c) r = cutG c [] r
  | [] => rfl
  | b :: r => by
    have ih := splitK_cut c r
    by_cases hb : b = c
    · subst hb
      have e : (b :: r).count b = r.count b + 1 := List.count_cons_self
      have hi : Lib.index (b :: r) [b] = 0 := by rw [Lib.index_one]; simp [Lib.indexByte]
      rw [e, cutG_hit, ← ih]
      show (if Lib.index (b :: r) [b] == -1 then [b :: r] else (b :: r).take ((Lib.index (b :: r) [b]).toNat + 0) :: Lib.splitK [b] 0 (r.count b) ((b :: r).drop ((Lib.index (b :: r) [b]).toNat + 1))) = _
      rw [hi]
      rfl
    · have e : (b :: r).count c = r.count c := List.count_cons_of_ne hb
      have hg : cutG c [] (b :: r) = cutG c [b] r := cutG_miss hb [] r
      obtain ⟨w, ws, hw⟩ := cutG_ne c r []
      rw [e, hg, cutG_pre c r [b] w ws hw]
      rw [hw] at ih
      have hi : Lib.index (b :: r) [c] = if Lib.index r [c] == -1 then -1 else Lib.index r [c] + 1 := by
        rw [Lib.index_one, Lib.index_one]
        show (if b == c then 0 else if Lib.indexByte r c == -1 then -1 else Lib.indexByte r c + 1) = _
        rw [if_neg (by simpa using hb)]
      cases hk : r.count c with
      | zero =>
        rw [hk] at ih
        have ih : [r] = w :: ws := ih
        cases ih
        rfl
      | succ k =>
        rw [hk] at ih
        unfold Lib.splitK at ih ⊢
        rw [hi]
        by_cases hm : Lib.index r [c] = -1
        · rw [hm] at ih ⊢
          have ih : [r] = w :: ws := ih
          cases ih
          rfl
        · have hge := Lib.indexByte_ge r c
          rw [← Lib.index_one] at hge
          obtain ⟨i, hi⟩ := Int.eq_ofNat_of_zero_le (show 0 ≤ Lib.index r [c] by omega)
          rw [hi] at ih ⊢
          have c1 : ((i : Int) == -1) = false := by simp
          have c2 : (((i : Int) + 1) == -1) = false := by simpa using (show ¬ (i : Int) + 1 = -1 by omega)
          have c3 : ((i : Int) + 1).toNat = i + 1 := by omega
          have c4 : ((i : Int)).toNat = i := rfl
          rw [c1] at ih ⊢
          simp only [Bool.false_eq_true, if_false, c4, Nat.add_zero] at ih
          simp only [Bool.false_eq_true, if_false, c2, c3, Nat.add_zero]
          cases ih
          rfl

def ofL (l : List UInt8) : ByteArray := ⟨l.toArray⟩
theorem ofL_data (t : ByteArray) : ofL t.data.toList = t := rfl
theorem split_cut (s : ByteArray) (c : UInt8) : p_strings_Split R s (ByteArray.mk #[c]) = (cutG c [] s.data.toList).map ofL := by
  have h := Lib.splitB_data (ByteArray.mk #[c]) 0 (Lib.countB s (ByteArray.mk #[c])) s
  have e : Lib.countB s (ByteArray.mk #[c]) = s.data.toList.count c := Lib.count_one c s.data.toList
  have h2 : (p_strings_Split R s (ByteArray.mk #[c])).map (·.data.toList) = cutG c [] s.data.toList := by
    unfold p_strings_Split
    rw [h, e]
    exact splitK_cut c s.data.toList
  rw [← h2, List.map_map]
  have : (ofL ∘ fun x : ByteArray => x.data.toList) = id := funext fun t => ofL_data t
  rw [this, List.map_id]

end Go.Dv
