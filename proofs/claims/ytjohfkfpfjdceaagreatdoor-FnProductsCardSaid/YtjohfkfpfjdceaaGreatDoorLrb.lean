/- Words of hexadecimal digits: the library's reading, and the reference's. -/
import Derived.Test.YtjohfkfpfjdceaaGreatDoorLra

set_option linter.unusedSimpArgs false
namespace Go.Dv
open Go.Cv

/-- the digit of a byte, as the reference has it; as the library has it -/
def hexv (b : UInt8) : Option Nat := if 48 ≤ b.toNat ∧ b.toNat ≤ 57 then some (b.toNat - 48) else if 97 ≤ b.toNat ∧ b.toNat ≤ 102 then some (b.toNat - 87) else none
def hv : Nat → List UInt8 → Option Nat
  | n, [] => some n
  | n, b :: r => match hexv b with
    | some d => hv (16 * n + d) r
    | none => none
def lw (b : UInt8) : Nat := (bits .or .u8 (b.toNat : Int) 32).toNat
theorem lw_eq (b : UInt8) : p_internal_strconv_lower R (b.toNat : Int) = (lw b : Int) ∧ lw b < 256 := by
  have h : ∀ n : Fin 256, bits .or .u8 (((UInt8.ofNat n.1).toNat : Nat) : Int) 32 = ((lw (UInt8.ofNat n.1) : Nat) : Int) ∧ lw (UInt8.ofNat n.1) < 256 := by decide +kernel
  have := h ⟨b.toNat, b.toNat_lt⟩
  unfold p_internal_strconv_lower
  simpa using this
def dig (b : UInt8) : Option Nat := if 48 ≤ b.toNat ∧ b.toNat ≤ 57 then some (b.toNat - 48) else if 97 ≤ lw b ∧ lw b ≤ 122 then some (lw b - 87) else none
def pu : Nat → List UInt8 → Sum Int Nat
  | n, [] => .inr n
  | n, b :: r => match dig b with
    | none => .inl 2
    | some d => if 16 ≤ d then .inl 2 else if 4294967295 < 16 * n + d then .inl 1 else pu (16 * n + d) r
theorem hexv_dig (b : UInt8) : ∀ d, hexv b = some d → dig b = some d ∧ d < 16 ∧ (b.toNat : Int) = hd d := by
  have h : ∀ n : Fin 256, ∀ d : Fin 16, hexv (UInt8.ofNat n.1) = some d.1 → dig (UInt8.ofNat n.1) = some d.1 ∧ ((UInt8.ofNat n.1).toNat : Int) = hd d.1 := by decide +kernel
  have h16 : ∀ n : Fin 256, ∀ d, hexv (UInt8.ofNat n.1) = some d → d < 16 := fun n d hd => by
    unfold hexv at hd
    split at hd
    · cases hd; omega
    · split at hd
      · cases hd; omega
      · cases hd
  intro d hd
  have e : UInt8.ofNat b.toNat = b := by simp
  have h1 := h16 ⟨b.toNat, b.toNat_lt⟩ d (by rw [e]; exact hd)
  have h2 := h ⟨b.toNat, b.toNat_lt⟩ ⟨d, h1⟩ (by rw [e]; exact hd)
  rw [e] at h2
  exact ⟨h2.1, h1, h2.2⟩
theorem hexv_hd (d : Nat) (h : d < 16) : hexv (UInt8.ofNat (hd d).toNat) = some d := by
  have : ∀ n : Fin 16, hexv (UInt8.ofNat (hd n.1).toNat) = some n.1 := by decide +kernel
  exact this ⟨d, h⟩

def puOut (s : ByteArray) : Sum Int Nat → (Int × Ifc × Unit) ⊕ (ByteArray × Bool × Int × Int × Ifc × Unit)
  | .inl e => .inl (if e = 2 then 0 else 4294967295, some (some (182, Value.int IntKind.i64 e)), ())
  | .inr m => .inr (s, false, (m : Int), 0, none, ())

theorem pu_run (s : ByteArray) (hs : s.size ≤ 1048576) : ∀ (k i n : Nat), i + k = s.size → n ≤ 4294967295 →
    W_internal_strconv_ParseUint_16_0 R (16, false, 1152921504606846976, 4294967295, (n : Int), p_ofText s, ((p_ofText s).length : Int), (i : Int), s, false, 0, none, ()) = some (puOut s (pu n (s.data.toList.drop i)))
  | 0, i, n, h, hn => by
    have hlen : (p_ofText s).length = s.size := by simp [p_ofText]
    have hd : s.data.toList.drop i = [] := List.drop_eq_nil_of_le (by show s.size ≤ i; omega)
    rw [hd]
    refine runW_out ?_
    simp only [st_internal_strconv_ParseUint_16_0]
    rw [df (show ¬ (i : Int) < ((p_ofText s).length : Int) by omega)]; rfl
  | k + 1, i, n, h, hn => by
    have hlen : (p_ofText s).length = s.size := by simp [p_ofText]
    have hl : i < s.data.toList.length := by show i < s.size; omega
    have hd : s.data.toList.drop i = s.data.toList[i] :: s.data.toList.drop (i + 1) := List.drop_eq_getElem_cons hl
    generalize hb : s.data.toList[i] = b at hd
    have hget : (p_ofText s).getD ((i : Int)).toNat 0 = (b.toNat : Int) := by
      show (p_ofText s).getD i 0 = _
      rw [getD_lt (by omega)]
      subst hb
      simp [p_ofText]
    obtain ⟨l1, l2⟩ := lw_eq b
    have hb256 := b.toNat_lt
    rw [hd]
    have w16 : IntKind.u8.wrap 16 = 16 := by decide
    have w16' : IntKind.u64.wrap 16 = 16 := by decide
    have hn16 : IntKind.u64.wrap ((n : Int) * 16) = 16 * (n : Int) := by rw [wrapu (by omega) (by omega)]; omega
    have q1 : decide ((i : Int) < ((p_ofText s).length : Int)) = true := dt (by omega)
    have q2 : decide (0 ≤ (i : Int)) = true := dt (by omega)
    have q3 : Nat.blt ((i : Int)).toNat (p_ofText s).length = true := ble_of (show i + 1 ≤ (p_ofText s).length by omega)
    have q4 : decide ((n : Int) ≥ 1152921504606846976) = false := df (by omega)
    -- the tail behind a digit
    have tail : ∀ d : Nat, d < 36 → ∀ z : Int, z = (d : Int) → ∀ (hst : st_internal_strconv_ParseUint_16_0 R 16 false 1152921504606846976 4294967295 (n : Int) (p_ofText s) ((p_ofText s).length : Int) (i : Int) s false 0 none =
        (brT (decide (z ≥ IntKind.u8.wrap 16)) (some (.inr (.inl (0, (some (some (182, Value.int IntKind.i64 2)), ()))))) (brT (decide ((n : Int) ≥ 1152921504606846976)) (some (.inr (.inl (4294967295, (some (some (182, Value.int IntKind.i64 1)), ()))))) (brT (decide (IntKind.u64.wrap (IntKind.u64.wrap ((n : Int) * IntKind.u64.wrap 16) + IntKind.u64.wrap z) < IntKind.u64.wrap ((n : Int) * IntKind.u64.wrap 16))) (some (.inr (.inl (4294967295, (some (some (182, Value.int IntKind.i64 1)), ()))))) (brT (decide (IntKind.u64.wrap (IntKind.u64.wrap ((n : Int) * IntKind.u64.wrap 16) + IntKind.u64.wrap z) > 4294967295)) (some (.inr (.inl (4294967295, (some (some (182, Value.int IntKind.i64 1)), ()))))) (brT ((p_ofText s).length.beq (p_ofText s).length && true) (some (.inl (16, (false, (1152921504606846976, (4294967295, (IntKind.u64.wrap (IntKind.u64.wrap ((n : Int) * IntKind.u64.wrap 16) + IntKind.u64.wrap z), (p_ofText s, (((p_ofText s).length : Int), (IntKind.i64.wrap ((i : Int) + 1), (s, (false, (0, (none, ())))))))))))))) none)))))),
        W_internal_strconv_ParseUint_16_0 R (16, false, 1152921504606846976, 4294967295, (n : Int), p_ofText s, ((p_ofText s).length : Int), (i : Int), s, false, 0, none, ()) = some (puOut s (if 16 ≤ d then .inl 2 else if 4294967295 < 16 * n + d then .inl 1 else pu (16 * n + d) (s.data.toList.drop (i + 1)))) := by
      intro d hd36 z hz hst
      subst hz
      have wz : IntKind.u64.wrap (d : Int) = (d : Int) := wrapu (by omega) (by omega)
      have wn : IntKind.u64.wrap (16 * (n : Int) + (d : Int)) = ((16 * n + d : Nat) : Int) := by rw [wrapu (by omega) (by omega)]; omega
      rw [w16, w16', hn16, wz, wn, q4, Nat.beq_refl, wrap_succ (by omega)] at hst
      by_cases c1 : 16 ≤ d
      · rw [if_pos c1]
        rw [dt (show (d : Int) ≥ 16 by omega)] at hst
        exact runW_out hst
      · rw [if_neg c1]
        rw [df (show ¬ (d : Int) ≥ 16 by omega), df (show ¬ ((16 * n + d : Nat) : Int) < 16 * (n : Int) by omega)] at hst
        by_cases c2 : 4294967295 < 16 * n + d
        · rw [if_pos c2]
          rw [dt (show ((16 * n + d : Nat) : Int) > 4294967295 by omega)] at hst
          exact runW_out hst
        · rw [if_neg c2]
          rw [df (show ¬ ((16 * n + d : Nat) : Int) > 4294967295 by omega)] at hst
          have hon : W_internal_strconv_ParseUint_16_0 R (16, false, 1152921504606846976, 4294967295, (n : Int), p_ofText s, ((p_ofText s).length : Int), (i : Int), s, false, 0, none, ()) = W_internal_strconv_ParseUint_16_0 R (16, false, 1152921504606846976, 4294967295, ((16 * n + d : Nat) : Int), p_ofText s, ((p_ofText s).length : Int), ((i + 1 : Nat) : Int), s, false, 0, none, ()) := runW_on hst
          rw [hon]
          exact pu_run s hs k (i + 1) (16 * n + d) (by omega) (by omega)
    have hpu : ∀ r, pu n (b :: r) = match dig b with | none => .inl 2 | some d => if 16 ≤ d then .inl 2 else if 4294967295 < 16 * n + d then .inl 1 else pu (16 * n + d) r := fun r => rfl
    rw [hpu]
    unfold dig
    by_cases c1 : 48 ≤ b.toNat
    · by_cases c2 : b.toNat ≤ 57
      · rw [if_pos ⟨c1, c2⟩]
        refine tail (b.toNat - 48) (by omega) (IntKind.u8.wrap ((b.toNat : Int) - 48)) (by rw [wrap8]; omega) ?_
        simp only [st_internal_strconv_ParseUint_16_0]
        rw [q1, q2, q3, hget, dt (show (48 : Int) ≤ (b.toNat : Int) by omega), dt (show (b.toNat : Int) ≤ 57 by omega)]
        cases ((b.toNat : Int) == 95) <;> rfl
      · rw [if_neg (fun h => c2 h.2)]
        by_cases c3 : 97 ≤ lw b
        · by_cases c4 : lw b ≤ 122
          · rw [if_pos ⟨c3, c4⟩]
            refine tail (lw b - 87) (by omega) (IntKind.u8.wrap (IntKind.u8.wrap ((lw b : Int) - 97) + 10)) (by rw [wrap8, wrap8]; omega) ?_
            simp only [st_internal_strconv_ParseUint_16_0]
            rw [q1, q2, q3, hget, l1, dt (show (48 : Int) ≤ (b.toNat : Int) by omega), df (show ¬ (b.toNat : Int) ≤ 57 by omega), dt (show (97 : Int) ≤ (lw b : Int) by omega), dt (show (lw b : Int) ≤ 122 by omega)]
            cases ((b.toNat : Int) == 95) <;> rfl
          · rw [if_neg (fun h => c4 h.2)]
            refine runW_out ?_
            simp only [st_internal_strconv_ParseUint_16_0]
            rw [q1, q2, q3, hget, l1, dt (show (48 : Int) ≤ (b.toNat : Int) by omega), df (show ¬ (b.toNat : Int) ≤ 57 by omega), dt (show (97 : Int) ≤ (lw b : Int) by omega), df (show ¬ (lw b : Int) ≤ 122 by omega)]
            cases ((b.toNat : Int) == 95) <;> rfl
        · rw [if_neg (fun h => c3 h.1)]
          refine runW_out ?_
          simp only [st_internal_strconv_ParseUint_16_0]
          rw [q1, q2, q3, hget, l1, dt (show (48 : Int) ≤ (b.toNat : Int) by omega), df (show ¬ (b.toNat : Int) ≤ 57 by omega), df (show ¬ (97 : Int) ≤ (lw b : Int) by omega)]
          cases ((b.toNat : Int) == 95) <;> rfl
    · rw [if_neg (fun h => c1 h.1)]
      by_cases c3 : 97 ≤ lw b
      · by_cases c4 : lw b ≤ 122
        · rw [if_pos ⟨c3, c4⟩]
          refine tail (lw b - 87) (by omega) (IntKind.u8.wrap (IntKind.u8.wrap ((lw b : Int) - 97) + 10)) (by rw [wrap8, wrap8]; omega) ?_
          simp only [st_internal_strconv_ParseUint_16_0]
          rw [q1, q2, q3, hget, l1, df (show ¬ (48 : Int) ≤ (b.toNat : Int) by omega), dt (show (97 : Int) ≤ (lw b : Int) by omega), dt (show (lw b : Int) ≤ 122 by omega)]
          cases ((b.toNat : Int) == 95) <;> rfl
        · rw [if_neg (fun h => c4 h.2)]
          refine runW_out ?_
          simp only [st_internal_strconv_ParseUint_16_0]
          rw [q1, q2, q3, hget, l1, df (show ¬ (48 : Int) ≤ (b.toNat : Int) by omega), dt (show (97 : Int) ≤ (lw b : Int) by omega), df (show ¬ (lw b : Int) ≤ 122 by omega)]
          cases ((b.toNat : Int) == 95) <;> rfl
      · rw [if_neg (fun h => c3 h.1)]
        refine runW_out ?_
        simp only [st_internal_strconv_ParseUint_16_0]
        rw [q1, q2, q3, hget, l1, df (show ¬ (48 : Int) ≤ (b.toNat : Int) by omega), df (show ¬ (97 : Int) ≤ (lw b : Int) by omega)]
        cases ((b.toNat : Int) == 95) <;> rfl

theorem parse_eq (s : ByteArray) (hs : s.size ≤ 1048576) : r_strconv_ParseUint_16 R s = true ∧
    match s.data.toList, pu 0 s.data.toList with
    | [], _ => p_isNil (p_strconv_ParseUint_16 R s).2 = false
    | _ :: _, .inl _ => p_isNil (p_strconv_ParseUint_16 R s).2 = false
    | _ :: _, .inr m => p_strconv_ParseUint_16 R s = ((m : Int), none) := by
  have hrun := pu_run s hs s.size 0 0 (by omega) (by omega)
  have hc : c1_internal_strconv_ParseUint_16 R s = some (puOut s (pu 0 (s.data.toList.drop 0))) := hrun
  rw [List.drop_zero] at hc
  have hsz : s.size.ble 1073741824 = true := ble_of (by omega)
  have hempty : (s.toList == (ByteArray.mk #[]).toList) = s.data.toList.isEmpty := by
    rw [Lib.toList_data, Lib.toList_data]
    cases s.data.toList <;> rfl
  have hpr : ∀ (e : Int), e = 2 ∨ e = 1 → errOk 182 (some (some (182, Value.int IntKind.i64 e))) = true := fun e he => by
    rcases he with rfl | rfl <;> rfl
  have h12 : ∀ l n e, pu n l = .inl e → e = 2 ∨ e = 1 := by
    intro l
    induction l with
    | nil => intro n e h; cases h
    | cons b r ih =>
      intro n e h
      unfold pu at h
      split at h
      · cases h; exact .inl rfl
      · split at h
        · cases h; exact .inl rfl
        · split at h
          · cases h; exact .inr rfl
          · exact ih _ _ h
  unfold r_strconv_ParseUint_16 p_strconv_ParseUint_16 c0_strconv_ParseUint_16 r_internal_strconv_ParseUint_16 p_internal_strconv_ParseUint_16 r_strconv_toError p_strconv_toError
  rw [hempty, hc, hsz, dt (show s.size ≤ 281474976710656 by omega)]
  simp only [Nat.beq_refl]
  cases hl : s.data.toList with
  | nil => exact ⟨rfl, rfl⟩
  | cons b r =>
    cases hp : pu 0 (b :: r) with
    | inl e =>
      refine ⟨?_, rfl⟩
      have := hpr e (h12 _ _ _ hp)
      show (_ && (bif true then (true && errOk _ (some (some (182, Value.int IntKind.i64 e))) && true) else true)) = true
      rw [this]; rfl
    | inr m => exact ⟨rfl, rfl⟩
end Go.Dv
