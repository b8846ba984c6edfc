/- The plain law of stored tracks: numbers in as many bytes as they take; check numbers; texts of bytes. -/
import Derived.Test.YtgfplcpjnlignaaDoorLhc
import Derived.Test.YtgfplcpjnlignaaDoorWkj

set_option linter.unusedSimpArgs false
namespace Go.Dv
open Go.Cv

/-! ### numbers in bytes -/
def npre (n : Nat) : List Int := if n < 128 then [] else ((n % 128 + 128 : Nat) : Int) :: npre (n / 128)
termination_by n
decreasing_by omega
def nfin (n : Nat) : Nat := if n < 128 then n else nfin (n / 128)
termination_by n
decreasing_by omega
def nenc (n : Nat) : List Int := npre n ++ [((nfin n : Nat) : Int)]
def zig (d : Int) : Nat := (if d < 0 then -2 * d - 1 else 2 * d).toNat

theorem npre_lt {n : Nat} (h : n < 128) : npre n = [] := by unfold npre; rw [if_pos h]
theorem npre_ge {n : Nat} (h : ¬ n < 128) : npre n = ((n % 128 + 128 : Nat) : Int) :: npre (n / 128) := by rw [npre, if_neg h]
theorem nfin_lt {n : Nat} (h : n < 128) : nfin n = n := by unfold nfin; rw [if_pos h]
theorem nfin_ge {n : Nat} (h : ¬ n < 128) : nfin n = nfin (n / 128) := by rw [nfin, if_neg h]

theorem npre_len : ∀ (k n : Nat), n < 128 ^ (k + 1) → (npre n).length ≤ k ∧ nfin n < 128
  | 0, n, h => by
    have h : n < 128 := by simpa using h
    rw [npre_lt h, nfin_lt h]; exact ⟨Nat.le_refl _, h⟩
  | k + 1, n, h => by
    by_cases c : n < 128
    · rw [npre_lt c, nfin_lt c]; exact ⟨Nat.zero_le _, c⟩
    · have h1 : n / 128 < 128 ^ (k + 1) := by
        rw [Nat.pow_succ] at h
        exact Nat.div_lt_of_lt_mul (by rw [Nat.mul_comm]; exact h)
      obtain ⟨h2, h3⟩ := npre_len k (n / 128) h1
      rw [npre_ge c, nfin_ge c]
      exact ⟨by simp; omega, h3⟩

theorem wrap8 (i : Int) : IntKind.u8.wrap i = i % 256 := by
  unfold IntKind.wrap
  have e1 : (IntKind.u8.bits) = 8 := rfl
  simp [IntKind.signed, e1]
theorem wrapu {i : Int} (h0 : 0 ≤ i) (h1 : i < 9223372036854775808) : IntKind.u64.wrap i = i := by rw [IntKind.wrap_u64]; omega
theorem or8 (k : Nat) (h : k < 256) : bits .or .u8 (k : Int) 128 = ((k % 128 + 128 : Nat) : Int) := by
  have : ∀ n : Fin 256, bits .or .u8 (n.1 : Int) 128 = ((n.1 % 128 + 128 : Nat) : Int) := by decide +kernel
  exact this ⟨k, h⟩

theorem ble_of {a b : Nat} (h : a ≤ b) : Nat.ble a b = true := Nat.ble_eq_true_of_le h

theorem bytes_run : ∀ (k n : Nat) (l : List Int), n < 128 ^ (k + 1) → k ≤ 7 → l.length + k ≤ 1073741824 →
    W_spec_l07Bytes_0 R (l, (n : Int), (), ()) = some (l ++ npre n, ((nfin n : Nat) : Int), (), ()) := by
  intro k
  have hout : ∀ (n : Nat) (l : List Int), n < 128 → W_spec_l07Bytes_0 R (l, (n : Int), (), ()) = some (l ++ npre n, ((nfin n : Nat) : Int), (), ()) := fun n l h => by
    rw [npre_lt h, nfin_lt h, List.append_nil]
    refine runW_out ?_
    simp only [st_spec_l07Bytes_0]
    rw [df (show ¬ (n : Int) ≥ 128 by omega), Nat.beq_refl]; rfl
  induction k with
  | zero => intro n l h _ _; exact hout n l (by simpa using h)
  | succ k ih =>
    intro n l h hk hl
    by_cases c : n < 128
    · exact hout n l c
    · have h1 : n / 128 < 128 ^ (k + 1) := by
        rw [Nat.pow_succ] at h
        exact Nat.div_lt_of_lt_mul (by rw [Nat.mul_comm]; exact h)
      have hb : n < 128 ^ 9 := Nat.lt_of_lt_of_le h (Nat.pow_le_pow_right (by decide) (by omega))
      have hb2 : (128 : Nat) ^ 9 = 9223372036854775808 := by decide
      have e1 : Int.tmod (n : Int) 128 = ((n % 128 : Nat) : Int) := rfl
      have e2 : Int.tdiv (n : Int) 128 = ((n / 128 : Nat) : Int) := rfl
      have e3 : IntKind.u8.wrap (IntKind.i64.wrap (Int.tmod (n : Int) 128 + 128)) = ((n % 128 + 128 : Nat) : Int) := by
        rw [e1, wrap_small (by omega) (by omega), wrap8]; omega
      have hs : st_spec_l07Bytes_0 R l (n : Int) = some (.inl (l ++ [((n % 128 + 128 : Nat) : Int)], ((n / 128 : Nat) : Int), (), ())) := by
        simp only [st_spec_l07Bytes_0]
        rw [e3, e2, wrap_small (i := ((n / 128 : Nat) : Int)) (by omega) (by omega), dt (show (n : Int) ≥ 128 by omega), Nat.beq_refl, Nat.beq_refl, ble_of (by simp; omega)]
        rfl
      rw [show W_spec_l07Bytes_0 R (l, (n : Int), (), ()) = W_spec_l07Bytes_0 R (l ++ [((n % 128 + 128 : Nat) : Int)], ((n / 128 : Nat) : Int), (), ()) from runW_on hs]
      rw [ih (n / 128) _ h1 (by omega) (by simp; omega), npre_ge c, nfin_ge c, List.append_assoc]; rfl

theorem pack_run : ∀ (k n : Nat) (l : List Int), n < 128 ^ (k + 1) → k ≤ 7 → l.length + k ≤ 1073741824 →
    W_impl_packNumber_0 R ((n : Int), l, [], ()) = some (((nfin n : Nat) : Int), l ++ npre n, [], ()) := by
  intro k
  have hout : ∀ (n : Nat) (l : List Int), n < 128 → W_impl_packNumber_0 R ((n : Int), l, [], ()) = some (((nfin n : Nat) : Int), l ++ npre n, [], ()) := fun n l h => by
    rw [npre_lt h, nfin_lt h, List.append_nil]
    refine runW_out ?_
    simp only [st_impl_packNumber_0]
    rw [df (show ¬ (n : Int) ≥ 128 by omega), Nat.beq_refl]; rfl
  induction k with
  | zero => intro n l h _ _; exact hout n l (by simpa using h)
  | succ k ih =>
    intro n l h hk hl
    by_cases c : n < 128
    · exact hout n l c
    · have h1 : n / 128 < 128 ^ (k + 1) := by
        rw [Nat.pow_succ] at h
        exact Nat.div_lt_of_lt_mul (by rw [Nat.mul_comm]; exact h)
      have e2 : (n : Int) / Int.ofNat 128 = ((n / 128 : Nat) : Int) := rfl
      have e3 : bits .or .u8 (IntKind.u8.wrap (n : Int)) 128 = ((n % 128 + 128 : Nat) : Int) := by
        rw [wrap8]
        have : (n : Int) % 256 = ((n % 256 : Nat) : Int) := by omega
        rw [this, or8 _ (Nat.mod_lt _ (by decide))]
        omega
      have hs : st_impl_packNumber_0 R (n : Int) l [] = some (.inl (((n / 128 : Nat) : Int), l ++ [((n % 128 + 128 : Nat) : Int)], [], ())) := by
        simp only [st_impl_packNumber_0]
        rw [e3, e2, dt (show (n : Int) ≥ 128 by omega), Nat.beq_refl, Nat.beq_refl, ble_of (by simp; omega)]
        rfl
      rw [show W_impl_packNumber_0 R ((n : Int), l, [], ()) = W_impl_packNumber_0 R (((n / 128 : Nat) : Int), l ++ [((n % 128 + 128 : Nat) : Int)], [], ()) from runW_on hs]
      rw [ih (n / 128) _ h1 (by omega) (by simp; omega), npre_ge c, nfin_ge c, List.append_assoc]; rfl

theorem zig_lt {d : Int} (h0 : -1073741824 ≤ d) (h1 : d ≤ 1073741824) : zig d < 128 ^ (4 + 1) ∧ (zig d : Int) = if d < 0 then -2 * d - 1 else 2 * d := by
  have e : (128 : Nat) ^ (4 + 1) = 34359738368 := by decide
  unfold zig
  rw [e]
  split <;> omega
theorem nenc_len {d : Int} (h0 : -1073741824 ≤ d) (h1 : d ≤ 1073741824) : (nenc (zig d)).length ≤ 5 := by
  have := (npre_len 4 (zig d) (zig_lt h0 h1).1).1
  unfold nenc; simp; omega

theorem bytes_eq {l : List Int} {d : Int} (hl : l.length ≤ 1000000) (h0 : -1073741824 ≤ d) (h1 : d ≤ 1073741824) : p_spec_l07Bytes R l d = l ++ nenc (zig d) ∧ r_spec_l07Bytes R l d = true := by
  obtain ⟨z1, z2⟩ := zig_lt h0 h1
  obtain ⟨n1, n2⟩ := npre_len 4 (zig d) z1
  have hr := bytes_run 4 (zig d) l z1 (by decide) (by omega)
  have hw : IntKind.u8.wrap ((nfin (zig d) : Nat) : Int) = ((nfin (zig d) : Nat) : Int) := by rw [wrap8]; omega
  have hb : ((l ++ npre (zig d)).length + [((nfin (zig d) : Nat) : Int)].length).ble 1073741824 = true := ble_of (by simp; omega)
  unfold p_spec_l07Bytes r_spec_l07Bytes
  by_cases c : d < 0
  · rw [if_pos c] at z2
    have hc : c0_spec_l07Bytes R l d = some (l ++ npre (zig d), ((nfin (zig d) : Nat) : Int), (), ()) := by
      unfold c0_spec_l07Bytes
      have e1 : Int.negSucc 1 * d = -2 * d := rfl
      rw [e1, wrap_small (i := -2 * d) (by omega) (by omega), wrap_small (by omega) (by omega), ← z2]
      exact hr
    rw [dt c, hc]
    simp only [Option.getD_some, Option.isSome_some, hw, Nat.beq_refl, hb, cond_true]
    exact ⟨by unfold nenc; rw [List.append_assoc], rfl⟩
  · rw [if_neg c] at z2
    have hc : c1_spec_l07Bytes R l d = some (l ++ npre (zig d), ((nfin (zig d) : Nat) : Int), (), ()) := by
      unfold c1_spec_l07Bytes
      rw [wrap_small (by omega) (by omega), ← z2]
      exact hr
    rw [df c, hc]
    simp only [Option.getD_some, Option.isSome_some, hw, Nat.beq_refl, hb, cond_false]
    exact ⟨by unfold nenc; rw [List.append_assoc], rfl⟩

theorem pack_eq {d : Int} (h0 : -1073741824 ≤ d) (h1 : d ≤ 1073741824) : p_impl_packNumber R d = nenc (zig d) ∧ r_impl_packNumber R d = true := by
  obtain ⟨z1, z2⟩ := zig_lt h0 h1
  obtain ⟨n1, n2⟩ := npre_len 4 (zig d) z1
  have e5 : (128 : Nat) ^ (4 + 1) = 34359738368 := by decide
  rw [e5] at z1
  have hr := pack_run 4 (zig d) [] (by rw [e5]; exact z1) (by decide) (by decide)
  rw [List.nil_append] at hr
  have hw : IntKind.u8.wrap ((nfin (zig d) : Nat) : Int) = ((nfin (zig d) : Nat) : Int) := by rw [wrap8]; omega
  have hb : ((npre (zig d)).length + [((nfin (zig d) : Nat) : Int)].length).ble 1073741824 = true := ble_of (by simp; omega)
  unfold p_impl_packNumber r_impl_packNumber
  by_cases c : d < 0
  · rw [if_pos c] at z2
    have hc : c0_impl_packNumber R d = some (((nfin (zig d) : Nat) : Int), npre (zig d), [], ()) := by
      unfold c0_impl_packNumber
      have e1 : Int.negSucc 1 * d = -2 * d := rfl
      rw [e1, wrap_small (i := -2 * d) (by omega) (by omega), wrap_small (by omega) (by omega), ← z2, wrapu (by omega) (by omega)]
      exact hr
    rw [dt c, hc]
    simp only [Option.getD_some, Option.isSome_some, hw, Nat.beq_refl, hb, cond_true]
    exact ⟨rfl, rfl⟩
  · rw [if_neg c] at z2
    have hc : c1_impl_packNumber R d = some (((nfin (zig d) : Nat) : Int), npre (zig d), [], ()) := by
      unfold c1_impl_packNumber
      rw [wrap_small (by omega) (by omega), ← z2, wrapu (by omega) (by omega)]
      exact hr
    rw [df c, hc]
    simp only [Option.getD_some, Option.isSome_some, hw, Nat.beq_refl, hb, cond_false]
    exact ⟨rfl, rfl⟩

/-! ### places in bytes -/
def stp (l : List (Nat × Nat)) (i : Nat) : Int × Int × Bool := p_spec_StepsOf R (l.getD i (0, 0)).1 (l.getD i (0, 0)).2
def pka (l : List (Nat × Nat)) : Nat → Int | 0 => 0 | i + 1 => (stp l i).1
def pkb (l : List (Nat × Nat)) : Nat → Int | 0 => 0 | i + 1 => (stp l i).2.1
def pk (l : List (Nat × Nat)) : Nat → List Int
  | 0 => []
  | i + 1 => pk l i ++ nenc (zig ((stp l i).1 - pka l i)) ++ nenc (zig ((stp l i).2.1 - pkb l i))
def small (x : Int) : Prop := -16777216 ≤ x ∧ x ≤ 16777216
def stepsIn (l : List (Nat × Nat)) : Prop := ∀ i, i < l.length → small (stp l i).1 ∧ small (stp l i).2.1

theorem pk_in {l : List (Nat × Nat)} (h : stepsIn l) : ∀ i, i ≤ l.length → small (pka l i) ∧ small (pkb l i) ∧ (pk l i).length ≤ 10 * i
  | 0, _ => ⟨(show small 0 from ⟨by decide, by decide⟩), (show small 0 from ⟨by decide, by decide⟩), Nat.le_refl _⟩
  | i + 1, hi => by
    obtain ⟨⟨a1, a2⟩, ⟨b1, b2⟩, hlen⟩ := pk_in h i (by omega)
    obtain ⟨⟨c1, c2⟩, ⟨d1, d2⟩⟩ := h i (by omega)
    have e1 := nenc_len (d := (stp l i).1 - pka l i) (by omega) (by omega)
    have e2 := nenc_len (d := (stp l i).2.1 - pkb l i) (by omega) (by omega)
    refine ⟨⟨c1, c2⟩, ⟨d1, d2⟩, ?_⟩
    show (pk l i ++ nenc (zig ((stp l i).1 - pka l i)) ++ nenc (zig ((stp l i).2.1 - pkb l i))).length ≤ _
    simp only [List.length_append]; omega

theorem specPack {l : List (Nat × Nat)} (h : stepsIn l) (hl : l.length ≤ 64) : c0_spec_l07Pack R l = some (pk l l.length, { data := #[] }, ()) := by
  refine runW_count (n := l.length) (step := fun x => st_spec_l07Pack_0 R x.1 x.2.1 x.2.2.1 x.2.2.2.1 x.2.2.2.2.1 x.2.2.2.2.2.1 x.2.2.2.2.2.2.1) (mk := fun i => (l, pk l i, pka l i, pkb l i, (l.length : Int), (i : Int), { data := #[] }, ())) (fun i hi => ?_) ?_
  · obtain ⟨⟨a1, a2⟩, ⟨b1, b2⟩, hlen⟩ := pk_in h i (by omega)
    obtain ⟨⟨c1, c2⟩, ⟨d1, d2⟩⟩ := h i hi
    have q1 : decide ((i : Int) < (l.length : Int)) = true := dt (by omega)
    have q2 : decide (0 ≤ (i : Int)) = true := dt (by omega)
    have hg : l.getD ((i : Int)).toNat (0, 0) = l.getD i (0, 0) := rfl
    have hs : p_spec_StepsOf R (l.getD i (0, 0)).fst (l.getD i (0, 0)).snd = stp l i := rfl
    obtain ⟨x1, x2⟩ := bytes_eq (l := pk l i) (d := (stp l i).1 - pka l i) (by omega) (by omega) (by omega)
    have e1 := nenc_len (d := (stp l i).1 - pka l i) (by omega) (by omega)
    obtain ⟨y1, y2⟩ := bytes_eq (l := pk l i ++ nenc (zig ((stp l i).1 - pka l i))) (d := (stp l i).2.1 - pkb l i) (by simp; omega) (by omega) (by omega)
    simp only [st_spec_l07Pack_0]
    rw [wrap_succ (by omega), q1, q2, hg, (rstepsOf _ _).2, hs, wrap_small (i := (stp l i).1 - pka l i) (by omega) (by omega), wrap_small (i := (stp l i).2.1 - pkb l i) (by omega) (by omega), x1, x2, y1, y2]
    simp only [Nat.beq_refl]
    rfl
  · simp only [st_spec_l07Pack_0]
    rw [df (show ¬ (l.length : Int) < (l.length : Int) by omega), Nat.beq_refl]; rfl

theorem implPack {l : List (Nat × Nat)} (h : stepsIn l) (hl : l.length ≤ 64) : c0_impl_packPlaces R l = some (pk l l.length, { data := #[] }, ()) := by
  refine runW_count (n := l.length) (step := fun x => st_impl_packPlaces_0 R x.1 x.2.1 x.2.2.1 x.2.2.2.1 x.2.2.2.2.1 x.2.2.2.2.2.1 x.2.2.2.2.2.2.1) (mk := fun i => (pk l i, pka l i, pkb l i, l, (l.length : Int), (i : Int), { data := #[] }, ())) (fun i hi => ?_) ?_
  · obtain ⟨⟨a1, a2⟩, ⟨b1, b2⟩, hlen⟩ := pk_in h i (by omega)
    obtain ⟨⟨c1, c2⟩, ⟨d1, d2⟩⟩ := h i hi
    have q1 : decide ((i : Int) < (l.length : Int)) = true := dt (by omega)
    have q2 : decide (0 ≤ (i : Int)) = true := dt (by omega)
    have hg : l.getD ((i : Int)).toNat (0, 0) = l.getD i (0, 0) := rfl
    have hs : p_impl_StepsOf R (l.getD i (0, 0)).fst (l.getD i (0, 0)).snd = stp l i := stepsOf_eq _ _
    obtain ⟨x1, x2⟩ := pack_eq (d := (stp l i).1 - pka l i) (by omega) (by omega)
    have e1 := nenc_len (d := (stp l i).1 - pka l i) (by omega) (by omega)
    have e2 := nenc_len (d := (stp l i).2.1 - pkb l i) (by omega) (by omega)
    obtain ⟨y1, y2⟩ := pack_eq (d := (stp l i).2.1 - pkb l i) (by omega) (by omega)
    simp only [st_impl_packPlaces_0]
    rw [wrap_succ (by omega), q1, q2, hg, (rstepsOf _ _).1, hs, wrap_small (i := (stp l i).1 - pka l i) (by omega) (by omega), wrap_small (i := (stp l i).2.1 - pkb l i) (by omega) (by omega), x1, x2, y1, y2]
    have m1 : ((pk l i).length + (nenc (zig ((stp l i).1 - pka l i))).length).ble 1073741824 = true := ble_of (by omega)
    have m2 : ((pk l i ++ nenc (zig ((stp l i).1 - pka l i))).length + (nenc (zig ((stp l i).2.1 - pkb l i))).length).ble 1073741824 = true := ble_of (by simp only [List.length_append]; omega)
    simp only [Nat.beq_refl, m1, m2]
    rfl
  · simp only [st_impl_packPlaces_0]
    rw [df (show ¬ (l.length : Int) < (l.length : Int) by omega)]
    simp only [Nat.beq_refl]; rfl

theorem packed_in {l : List (Nat × Nat)} (hl : l.length ≤ 1048576) (h : p_spec_l07Packed R l = true) : l.length ≤ 64 ∧ stepsIn l := by
  unfold p_spec_l07Packed at h
  cases hv : ((l.all fun x => p_impl_ValidPlace R x.fst x.snd) && (decide (1 ≤ l.length) && decide (l.length ≤ 64)))
  · rw [hv] at h; cases h
  · have hv0 := hv
    simp only [Bool.and_eq_true, decide_eq_true_eq] at hv0
    obtain ⟨hv1, _, hv3⟩ := hv0
    refine ⟨hv3, fun i hi => ?_⟩
    have hvi : ∀ i, i < l.length → p_impl_ValidPlace R (l.getD i (0, 0)).1 (l.getD i (0, 0)).2 = true := fun i hi => by
      rw [getD_lt hi]; exact all_iff.2 hv1 i hi
    obtain ⟨t, h1, h2⟩ := packed_run l hl hvi
    rw [hv, h1] at h
    cases t
    · cases h
    · have h3 := h2.1 rfl i hi
      unfold p_impl_isPacked c1_impl_isPacked c0_impl_isPacked at h3
      rw [stepsOf_eq, placeOfSteps_eq] at h3
      change (bif (stp l i).snd.snd then _ else false) = true at h3
      cases hb : (stp l i).snd.snd
      · rw [hb] at h3; cases h3
      · rw [hb] at h3
        have e : p_spec_StepsOf R (l.getD i (0, 0)).fst (l.getD i (0, 0)).snd = stp l i := rfl
        rw [e] at h3
        unfold p_spec_PlaceOfSteps p_spec_l00In at h3
        have n1 : Int.negSucc 4194303 = -4194304 := rfl
        have n2 : Int.negSucc 8388607 = -8388608 := rfl
        rw [n1, n2] at h3
        by_cases w1 : -4194304 ≤ (stp l i).fst
        · by_cases w2 : (stp l i).fst ≤ 4194304
          · by_cases w3 : -8388608 ≤ (stp l i).snd.fst
            · by_cases w4 : (stp l i).snd.fst ≤ 8388607
              · exact ⟨⟨by omega, by omega⟩, ⟨by omega, by omega⟩⟩
              · exfalso; revert h3
                simp [w1, w2, w3, w4]
            · exfalso; revert h3
              simp [w1, w2, w3]
          · exfalso; revert h3
            simp [w1, w2]
        · exfalso; revert h3
          simp [w1]

/-! ### check numbers -/
def chk (s : ByteArray) : Nat → Int
  | 0 => 0
  | i + 1 => (877 * chk s i + p_byteAt s (i : Int) + 163).tmod 65003
theorem byteAt_lt (s : ByteArray) (i : Int) : 0 ≤ p_byteAt s i ∧ p_byteAt s i < 256 := by
  unfold p_byteAt
  have := (s.data.getD i.toNat 0).toNat_lt
  omega
theorem chk_in (s : ByteArray) : ∀ i, 0 ≤ chk s i ∧ chk s i < 65003
  | 0 => ⟨Int.le_refl 0, (show (0 : Int) < 65003 by decide)⟩
  | i + 1 => by
    obtain ⟨h1, h2⟩ := chk_in s i
    obtain ⟨h3, h4⟩ := byteAt_lt s (i : Int)
    show 0 ≤ (877 * chk s i + p_byteAt s (i : Int) + 163).tmod 65003 ∧ (877 * chk s i + p_byteAt s (i : Int) + 163).tmod 65003 < 65003
    rw [Int.tmod_eq_emod_of_nonneg (by omega)]
    omega
theorem chk_step (s : ByteArray) (i : Nat) : (IntKind.i64.wrap (IntKind.i64.wrap (IntKind.i64.wrap (877 * chk s i) + IntKind.i64.wrap (p_byteAt s (i : Int))) + 163)).tmod 65003 = chk s (i + 1) := by
  obtain ⟨h1, h2⟩ := chk_in s i
  obtain ⟨h3, h4⟩ := byteAt_lt s (i : Int)
  rw [wrap_small (i := 877 * chk s i) (by omega) (by omega), wrap_small (i := p_byteAt s (i : Int)) (by omega) (by omega), wrap_small (i := 877 * chk s i + p_byteAt s (i : Int)) (by omega) (by omega), wrap_small (by omega) (by omega)]
  rfl
theorem specCheck (s : ByteArray) (h : s.size ≤ 4194304) : c0_spec_l01Check R 0 s = some (chk s s.size, 0, ()) := by
  refine runW_count (n := s.size) (step := fun x => st_spec_l01Check_0 R x.1 x.2.1 x.2.2.1 x.2.2.2.1) (mk := fun i => (chk s i, s, (i : Int), 0, ())) (fun i hi => ?_) ?_
  · simp only [st_spec_l01Check_0]
    rw [wrap_succ (by omega), chk_step, dt (show (i : Int) < (s.size : Int) by omega), dt (show 0 ≤ (i : Int) by omega)]; rfl
  · simp only [st_spec_l01Check_0]
    rw [df (show ¬ (s.size : Int) < (s.size : Int) by omega)]; rfl
theorem implCheck (s : ByteArray) (h : s.size ≤ 4194304) : c0_impl_CheckOf R 0 s = some (chk s s.size, 0, false, ()) := by
  refine runW_count (n := s.size) (step := fun x => st_impl_CheckOf_0 R x.1 x.2.1 x.2.2.1 x.2.2.2.1 x.2.2.2.2.1 x.2.2.2.2.2.1) (mk := fun i => (chk s i, s, (s.size : Int), (i : Int), 0, false, ())) (fun i hi => ?_) ?_
  · simp only [st_impl_CheckOf_0]
    rw [wrap_succ (by omega), chk_step, dt (show (i : Int) < (s.size : Int) by omega), dt (show 0 ≤ (i : Int) by omega)]; rfl
  · simp only [st_impl_CheckOf_0]
    rw [df (show ¬ (s.size : Int) < (s.size : Int) by omega)]; rfl

/-! ### texts of bytes -/
theorem bytes_append (a b : List Int) : p_bytes (a ++ b) = p_bytes a ++ p_bytes b := by
  apply ByteArray.ext
  simp [p_bytes]
theorem bytes_ofText (t : ByteArray) : p_bytes (p_ofText t) = t := by
  apply ByteArray.ext
  apply Array.toList_inj.1
  unfold p_bytes p_ofText
  simp only [List.map_map]
  rw [show ((fun n : Int => UInt8.ofNat n.toNat) ∘ fun b : UInt8 => ((b.toNat : Nat) : Int)) = id from funext fun b => by simp]
  simp
theorem bytes_size (l : List Int) : (p_bytes l).size = l.length := by
  show (p_bytes l).data.size = _
  simp [p_bytes]
end Go.Dv
