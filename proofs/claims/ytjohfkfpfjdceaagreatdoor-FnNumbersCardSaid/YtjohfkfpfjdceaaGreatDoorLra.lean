/- Printed by gen2.py (moved out of Wkh). -/
/- Functions that are handed an array for good and give it back, longer. -/
/- The plain law of stored tracks: numbers in as many bytes as they take; check numbers; texts of bytes. -/
/- Printed by gen2.py (moved out of Zkh). -/
/- Texts that are cut at a byte: the library's way and the reference's give the same parts. -/
import Derived.Test.YtjohfkfpfjdceaaGreatDoorWko
import Derived.Lib.SplitLaws
import Derived.Lib.IndexBytes
import Derived.Test.YtjohfkfpfjdceaaGreatDoorZkb
import Derived.Test.YtjohfkfpfjdceaaGreatDoorLha
import Derived.Test.YtjohfkfpfjdceaaGreatDoorDr
import Derived.Test.YtjohfkfpfjdceaaGreatDoorWkb
import Derived.Test.YtjohfkfpfjdceaaGreatDoorZa
import Derived.Test.YtjohfkfpfjdceaaGreatDoorQd
import Derived.Test.YtjohfkfpfjdceaaGreatDoorNc
import Derived.Test.YtjohfkfpfjdceaaGreatDoorZkm
import Derived.Test.YtjohfkfpfjdceaaGreatDoorGz
import Derived.Test.YtjohfkfpfjdceaaGreatDoorDs

set_option linter.unusedVariables false
set_option linter.unusedSimpArgs false

-- GENERATED BELOW (gen.py)
namespace Go.Dv
open Go.Cv
noncomputable section
def F_spec_l01Same (r : Bool) : AS.Ty (.cons (.one .bool) .nil) × List CS := ((r, ()), [])
def p_spec_l01Same (M : FOps) (a0 : Nat) (a1 : Nat) : Bool :=
  p_spec_l01Bits M a0 == p_spec_l01Bits M a1
def r_spec_l01Same (M : FOps) (a0 : Nat) (a1 : Nat) : Bool :=
  ((r_spec_l01Bits M a0) && ((r_spec_l01Bits M a1) && true))
def S_spec_l01Same (M : FOps) : FSpec := mkSpec (.cons (.one (.fl .f32)) (.cons (.one (.fl .f32)) .nil)) (.cons (.one .bool) .nil) (fun x => r_spec_l01Same M x.1 x.2.1) (fun x => F_spec_l01Same (p_spec_l01Same M x.1 x.2.1))

end
end Go.Dv


namespace Go.Dv
open Go.RowKit Go.Cv

variable {P : Program} {Γ : CEnv}

/-- a contract that says nothing holds of whatever function -/
theorem ok_noSpec {P : Program} {f : FuncId} : OkFn P f noSpec := fun _ _ _ h => nomatch h
end Go.Dv


set_option linter.unusedSimpArgs false
namespace Go.Dv
open Go.Cv

/-! ### numbers in bytes -/
theorem wrap8 (i : Int) : IntKind.u8.wrap i = i % 256 := by
  unfold IntKind.wrap
  have e1 : (IntKind.u8.bits) = 8 := rfl
  simp [IntKind.signed, e1]
theorem wrapu {i : Int} (h0 : 0 ≤ i) (h1 : i < 9223372036854775808) : IntKind.u64.wrap i = i := by rw [IntKind.wrap_u64]; omega
theorem ble_of {a b : Nat} (h : a ≤ b) : Nat.ble a b = true := Nat.ble_eq_true_of_le h

/-! ### places in bytes -/
/-! ### check numbers -/
/-! ### texts of bytes -/
end Go.Dv


set_option linter.unusedVariables false
set_option linter.unusedSimpArgs false

-- GENERATED BELOW (gen.py)
namespace Go.Proofs.YtjohfkfpfjdceaaGreatDoor
open Go Go.Cv Go.Dv
set_option maxRecDepth 100000 in
theorem e_spec_l01Same (M : FOps) (a0 : Nat) (a1 : Nat) (h : r_spec_l01Same M a0 a1 = true) : cwp M Tryz.prog (envOf [(98, S_spec_l01Bits M)]) (lamOf []) 40 (Tryz.f48.body.getD .skip) 0 (retK Tryz.prog Tryz.f48.results.toList (.cons (.one .bool) .nil) 0) (initSt (.cons (.one (.fl .f32)) (.cons (.one (.fl .f32)) .nil)) (a0, (a1, ()))) = some (F_spec_l01Same (p_spec_l01Same M a0 a1)) := 
  Eq.trans (b := (brT (r_spec_l01Bits M a0) (brT (r_spec_l01Bits M a1) (some (F_spec_l01Same (p_spec_l01Bits M a0 == p_spec_l01Bits M a1))) none) none)) (by kernel_rfl)
    ((pushL (pushL (fun _ => rfl))) h)
theorem ok_spec_l01Same : OkFn Tryz.prog 48 (S_spec_l01Same R) :=
  okFn_of (good_cons ok_spec_l01Bits good_nil) follows Tryz.func48 rfl (by decide) (by decide) lam_nil (m := 2) (fun _ => rfl) (by decide) (fun _ _ h => nomatch h) (fun _ _ h => nomatch h) (fun x hx => ⟨40, e_spec_l01Same R x.1 x.2.1 hx⟩)

end Go.Proofs.YtjohfkfpfjdceaaGreatDoor


set_option linter.unusedSimpArgs false
namespace Go.Dv
open Go.Cv

def cutG (c : UInt8) : List UInt8 → List UInt8 → List (List UInt8)
  | cur, [] => [cur]
  | cur, b :: r => if b == c then cur :: cutG c [] r else cutG c (cur ++ [b]) r

theorem cutG_ne (c : UInt8) : ∀ (r cur : List UInt8), ∃ w ws, cutG c cur r = w :: ws
  | [], cur => ⟨cur, [], rfl⟩
  | b :: r, cur => by
    unfold cutG
    split
    · exact ⟨_, _, rfl⟩
    · exact cutG_ne c r _
theorem cutG_pre (c : UInt8) : ∀ (r cur w : List UInt8) (ws : List (List UInt8)), cutG c [] r = w :: ws → cutG c cur r = (cur ++ w) :: ws
  | [], cur, w, ws, h => by
    have h : [[]] = w :: ws := h
    cases h
    show [cur] = [cur ++ []]
    rw [List.append_nil]
  | b :: r, cur, w, ws, h => by
    unfold cutG at h ⊢
    split at h
    · rename_i hb
      cases h
      rw [if_pos hb, List.append_nil]
    · rename_i hb
      rw [if_neg hb]
      obtain ⟨w', ws', e⟩ := cutG_ne c r []
      have h1 := cutG_pre c r ([] ++ [b]) w' ws' e
      have h2 := cutG_pre c r (cur ++ [b]) w' ws' e
      rw [h1] at h
      cases h
      rw [h2, List.append_assoc]
      rfl

theorem cutG_hit (c : UInt8) (cur r : List UInt8) : cutG c cur (c :: r) = cur :: cutG c [] r := by rw [cutG, if_pos (by simp)]
theorem cutG_miss {b c : UInt8} (h : ¬ b = c) (cur r : List UInt8) : cutG c cur (b :: r) = cutG c (cur ++ [b]) r := by rw [cutG, if_neg (by simpa using h)]

theorem splitK_cut (c : UInt8) : ∀ (r : List UInt8), Lib.splitK [c] 0 (r.count c) r = cutG c [] r
  | [] => rfl
  | b :: r => by
    have ih := splitK_cut c r
    by_cases hb : b = c
    · subst hb
      have e : (b :: r).count b = r.count b + 1 := List.count_cons_self
      have hi : Lib.index (b :: r) [b] = 0 := by rw [Lib.index_one]; simp [Lib.indexByte]
      rw [e, cutG_hit, ← ih]
      show (if Lib.index (b :: r) [b] == -1 then [b :: r] else (b :: r).take ((Lib.index (b :: r) [b]).toNat + 0) :: Lib.splitK [b] 0 (r.count b) ((b :: r).drop ((Lib.index (b :: r) [b]).toNat + 1))) = _
      rw [hi]
      rfl
    · have e : (b :: r).count c = r.count c := List.count_cons_of_ne hb
      have hg : cutG c [] (b :: r) = cutG c [b] r := cutG_miss hb [] r
      obtain ⟨w, ws, hw⟩ := cutG_ne c r []
      rw [e, hg, cutG_pre c r [b] w ws hw]
      rw [hw] at ih
      have hi : Lib.index (b :: r) [c] = if Lib.index r [c] == -1 then -1 else Lib.index r [c] + 1 := by
        rw [Lib.index_one, Lib.index_one]
        show (if b == c then 0 else if Lib.indexByte r c == -1 then -1 else Lib.indexByte r c + 1) = _
        rw [if_neg (by simpa using hb)]
      cases hk : r.count c with
      | zero =>
        rw [hk] at ih
        have ih : [r] = w :: ws := ih
        cases ih
        rfl
      | succ k =>
        rw [hk] at ih
        unfold Lib.splitK at ih ⊢
        rw [hi]
        by_cases hm : Lib.index r [c] = -1
        · rw [hm] at ih ⊢
          have ih : [r] = w :: ws := ih
          cases ih
          rfl
        · have hge := Lib.indexByte_ge r c
          rw [← Lib.index_one] at hge
          obtain ⟨i, hi⟩ := Int.eq_ofNat_of_zero_le (show 0 ≤ Lib.index r [c] by omega)
          rw [hi] at ih ⊢
          have c1 : ((i : Int) == -1) = false := by simp
          have c2 : (((i : Int) + 1) == -1) = false := by simpa using (show ¬ (i : Int) + 1 = -1 by omega)
          have c3 : ((i : Int) + 1).toNat = i + 1 := by omega
          have c4 : ((i : Int)).toNat = i := rfl
          rw [c1] at ih ⊢
          simp only [Bool.false_eq_true, if_false, c4, Nat.add_zero] at ih
          simp only [Bool.false_eq_true, if_false, c2, c3, Nat.add_zero]
          cases ih
          rfl

def ofL (l : List UInt8) : ByteArray := ⟨l.toArray⟩
theorem ofL_data (t : ByteArray) : ofL t.data.toList = t := rfl
theorem split_cut (s : ByteArray) (c : UInt8) : p_strings_Split R s (ByteArray.mk #[c]) = (cutG c [] s.data.toList).map ofL := by
  have h := Lib.splitB_data (ByteArray.mk #[c]) 0 (Lib.countB s (ByteArray.mk #[c])) s
  have e : Lib.countB s (ByteArray.mk #[c]) = s.data.toList.count c := Lib.count_one c s.data.toList
  have h2 : (p_strings_Split R s (ByteArray.mk #[c])).map (·.data.toList) = cutG c [] s.data.toList := by
    unfold p_strings_Split
    rw [h, e]
    exact splitK_cut c s.data.toList
  rw [← h2, List.map_map]
  have : (ofL ∘ fun x : ByteArray => x.data.toList) = id := funext fun t => ofL_data t
  rw [this, List.map_id]

end Go.Dv
