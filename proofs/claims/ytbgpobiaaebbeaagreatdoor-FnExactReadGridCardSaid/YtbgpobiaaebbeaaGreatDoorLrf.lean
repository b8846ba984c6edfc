/- Numbers in decimal: the library's reading and the reference's give the same. -/
import Derived.Test.YtbgpobiaaebbeaaGreatDoorLrd
import Derived.Test.YtbgpobiaaebbeaaGreatDoorWkr
import Derived.Lib.ItoaMem

set_option linter.unusedSimpArgs false
namespace Go.Dv
open Go.Cv

/-! ### plain decimal digits -/
def sdf : Nat → List UInt8 → Nat
  | n, [] => n
  | n, b :: r => if 48 ≤ b.toNat ∧ b.toNat ≤ 57 then sdf (10 * n + (b.toNat - 48)) r else sdf n r
theorem sdf_cons (n : Nat) (b : UInt8) (r : List UInt8) : sdf n (b :: r) = if 48 ≤ b.toNat ∧ b.toNat ≤ 57 then sdf (10 * n + (b.toNat - 48)) r else sdf n r := by rw [sdf]
theorem sdf_append : ∀ (a b : List UInt8) (n : Nat), sdf n (a ++ b) = sdf (sdf n a) b
  | [], b, n => rfl
  | x :: a, b, n => by
    show sdf n (x :: (a ++ b)) = sdf (sdf n (x :: a)) b
    rw [sdf_cons, sdf_cons]
    split
    · exact sdf_append a b _
    · exact sdf_append a b _
theorem pum_cons (M n : Nat) (c : UInt8) (r : List UInt8) : Lib.parseUintM M n (c :: r) = if 48 ≤ c.toNat ∧ c.toNat ≤ 57 then (if 1844674407370955162 ≤ n then .range else if M < n * 10 + (c.toNat - 48) then .range else Lib.parseUintM M (n * 10 + (c.toNat - 48)) r) else .syntax := by rw [Lib.parseUintM]
theorem pum_append (M : Nat) : ∀ (a b : List UInt8) (n : Nat), Lib.parseUintM M n (a ++ b) = match Lib.parseUintM M n a with | .ok v => Lib.parseUintM M v b | e => e
  | [], b, n => rfl
  | x :: a, b, n => by
    show Lib.parseUintM M n (x :: (a ++ b)) = _
    rw [pum_cons, pum_cons]
    by_cases c1 : 48 ≤ x.toNat ∧ x.toNat ≤ 57
    · rw [if_pos c1, if_pos c1]
      by_cases c2 : 1844674407370955162 ≤ n
      · rw [if_pos c2, if_pos c2]
      · rw [if_neg c2, if_neg c2]
        by_cases c3 : M < n * 10 + (x.toNat - 48)
        · rw [if_pos c3, if_pos c3]
        · rw [if_neg c3, if_neg c3]
          exact pum_append M a b _
    · rw [if_neg c1, if_neg c1]
theorem digit_byte (d : Nat) (h : d < 10) : (UInt8.ofNat (48 + d)).toNat = 48 + d := by
  have : ∀ n : Fin 10, (UInt8.ofNat (48 + n.1)).toNat = 48 + n.1 := by decide
  exact this ⟨d, h⟩
theorem dec_facts : ∀ (u : Nat), u ≤ 1000000000000000 → sdf 0 (Lib.decDigits u) = u ∧ Lib.parseUintM (2 ^ 64 - 1) 0 (Lib.decDigits u) = .ok u ∧ (∀ b ∈ Lib.decDigits u, 48 ≤ b.toNat ∧ b.toNat ≤ 57) ∧ Lib.decDigits u ≠ [] := by
  intro u
  induction u using Nat.strongRecOn with
  | ind u ih =>
    intro hu
    by_cases h : u < 10
    · have hd : Lib.decDigits u = [UInt8.ofNat (48 + u)] := by rw [Lib.decDigits, dif_pos h]
      have hb := digit_byte u h
      rw [hd]
      refine ⟨?_, ?_, fun b hb' => ?_, by simp⟩
      · unfold sdf; rw [hb, if_pos (by omega)]; show 10 * 0 + (48 + u - 48) = u; omega
      · unfold Lib.parseUintM; rw [hb, if_pos (by omega), if_neg (by omega), if_neg (by omega)]
        show Lib.NumEnd.ok (0 * 10 + (48 + u - 48)) = _
        congr 1; omega
      · rw [List.mem_singleton] at hb'; subst hb'; rw [hb]; omega
    · obtain ⟨i1, i2, i3, i4⟩ := ih (u / 10) (by omega) (by omega)
      have hd : Lib.decDigits u = Lib.decDigits (u / 10) ++ [UInt8.ofNat (48 + u % 10)] := by rw [Lib.decDigits, dif_neg h]
      have hb := digit_byte (u % 10) (Nat.mod_lt _ (by decide))
      rw [hd]
      refine ⟨?_, ?_, fun b hb' => ?_, by simp⟩
      · rw [sdf_append, i1]
        unfold sdf; rw [hb, if_pos (by omega)]; show 10 * (u / 10) + (48 + u % 10 - 48) = u; omega
      · rw [pum_append, i2]
        show Lib.parseUintM (2 ^ 64 - 1) (u / 10) [UInt8.ofNat (48 + u % 10)] = _
        unfold Lib.parseUintM; rw [hb, if_pos (by omega), if_neg (by omega), if_neg (by omega)]
        show Lib.NumEnd.ok (u / 10 * 10 + (48 + u % 10 - 48)) = _
        congr 1; omega
      · rcases List.mem_append.1 hb' with h1 | h1
        · exact i3 b h1
        · rw [List.mem_singleton] at h1; subst h1; rw [hb]; omega
theorem dec_len : ∀ (k u : Nat), u < 10 ^ (k + 1) → (Lib.decDigits u).length ≤ k + 1
  | 0, u, h => by rw [Lib.decDigits, dif_pos (by simpa using h)]; simp
  | k + 1, u, h => by
    by_cases c : u < 10
    · rw [Lib.decDigits, dif_pos c]; simp
    · rw [Lib.decDigits, dif_neg c, List.length_append]
      have := dec_len k (u / 10) (by rw [Nat.pow_succ] at h; exact Nat.div_lt_of_lt_mul (by rw [Nat.mul_comm]; exact h))
      simp; omega

def inR (n : Int) : Prop := -1000000000000000 ≤ n ∧ n ≤ 1000000000000000
/-- the sign and the digits of a text -/
def sgn (l : List UInt8) : Int := match l with
  | [] => 0
  | b :: _ => if b.toNat = 45 then -((sdf 0 l : Nat) : Int) else ((sdf 0 l : Nat) : Int)
theorem itoa_facts (n : Int) (h : inR n) : Lib.parseIntB 64 (Lib.itoa n) = .ok n ∧ sgn (Lib.itoa n) = n ∧ 1 ≤ (Lib.itoa n).length ∧ (Lib.itoa n).length ≤ 17 := by
  obtain ⟨h0, h1⟩ := h
  unfold Lib.itoa
  split
  · rename_i hn
    obtain ⟨u, rfl⟩ : ∃ u : Nat, n = -(u : Int) := ⟨n.natAbs, by omega⟩
    have e : (-(u : Int)).natAbs = u := by omega
    rw [e]
    obtain ⟨d1, d2, d3, d4⟩ := dec_facts u (by omega)
    have dl := dec_len 15 u (by omega)
    have hb : (45 : UInt8).toNat = 45 := rfl
    refine ⟨?_, ?_, by simp, by simp; omega⟩
    · unfold Lib.parseIntB
      simp only [hb, or_true, if_true]
      unfold Lib.parseUintB
      rw [if_neg d4, d2]
      simp only [not_true_eq_false, false_and, if_false, true_and]
      rw [if_neg (by omega)]
    · unfold sgn
      simp only [hb, if_true]
      unfold sdf
      rw [hb, if_neg (by omega), d1]
  · rename_i hn
    obtain ⟨u, rfl⟩ : ∃ u : Nat, n = (u : Int) := ⟨n.toNat, by omega⟩
    have e : ((u : Int)).toNat = u := rfl
    rw [e]
    obtain ⟨d1, d2, d3, d4⟩ := dec_facts u (by omega)
    have dl := dec_len 15 u (by omega)
    cases hd : Lib.decDigits u with
    | nil => exact absurd hd d4
    | cons c r =>
      have hc := d3 c (by rw [hd]; simp)
      rw [hd] at d1 d2 dl
      refine ⟨?_, ?_, by simp, by omega⟩
      · have c1 : ¬ (c.toNat = 43 ∨ c.toNat = 45) := by omega
        have c2 : ¬ c.toNat = 45 := by omega
        have e1 : Lib.parseUintB 64 (c :: r) = .ok u := by
          unfold Lib.parseUintB
          rw [if_neg (by simp), d2]
        show (match Lib.parseUintB 64 (if c.toNat = 43 ∨ c.toNat = 45 then r else c :: r) with
          | Lib.NumEnd.syntax => Lib.NumEnd.syntax
          | Lib.NumEnd.range => Lib.NumEnd.range
          | Lib.NumEnd.ok u => if ¬ c.toNat = 45 ∧ 2 ^ (64 - 1) ≤ u then Lib.NumEnd.range else if c.toNat = 45 ∧ 2 ^ (64 - 1) < u then Lib.NumEnd.range else Lib.NumEnd.ok (if c.toNat = 45 then -(u : Int) else u)) = _
        rw [if_neg c1, e1]
        simp only
        rw [if_neg (by omega), if_neg (fun h => c2 h.1), if_neg c2]
      · show (if c.toNat = 45 then -((sdf 0 (c :: r) : Nat) : Int) else ((sdf 0 (c :: r) : Nat) : Int)) = _
        rw [if_neg (by omega), d1]

/-! ### the reference's decimal -/
def dB (u : Nat) : List Int := if u = 0 then [] else dB (u / 10) ++ [((48 + u % 10 : Nat) : Int)]
termination_by u
decreasing_by omega
theorem dB_zero : dB 0 = [] := by rw [dB, if_pos rfl]
theorem dB_pos {u : Nat} (h : u ≠ 0) : dB u = dB (u / 10) ++ [((48 + u % 10 : Nat) : Int)] := by rw [dB, if_neg h]
theorem dB_dec : ∀ (u : Nat), u ≠ 0 → (dB u).map (fun n => UInt8.ofNat n.toNat) = Lib.decDigits u := by
  intro u
  induction u using Nat.strongRecOn with
  | ind u ih =>
    intro hu
    rw [dB_pos hu]
    by_cases h : u < 10
    · have e : u / 10 = 0 := by omega
      have e2 : u % 10 = u := by omega
      rw [e, dB_zero, Lib.decDigits, dif_pos h, e2]; rfl
    · have hd : Lib.decDigits u = Lib.decDigits (u / 10) ++ [UInt8.ofNat (48 + u % 10)] := by rw [Lib.decDigits, dif_neg h]
      rw [List.map_append, ih (u / 10) (by omega) (by omega), hd]; rfl
theorem dB_len : ∀ (k u : Nat), u < 10 ^ k → (dB u).length ≤ k
  | 0, u, h => by
    obtain rfl : u = 0 := by simpa using h
    rw [dB_zero]; simp
  | k + 1, u, h => by
    by_cases c : u = 0
    · subst c; rw [dB_zero]; simp
    · rw [dB_pos c, List.length_append]
      have := dB_len k (u / 10) (by rw [Nat.pow_succ] at h; exact Nat.div_lt_of_lt_mul (by rw [Nat.mul_comm]; exact h))
      simp; omega

/-- one round: a digit ahead -/
theorem dec_step (acc : List Int) (u : Nat) (neg : Bool) (n : Int) (hu : u ≤ 1000000000000000) (ha : acc.length ≤ 1000) (hne : acc = [] ∨ u ≠ 0) :
    st_spec_l01Dec_0 R acc (if neg then -(u : Int) else (u : Int)) n (ByteArray.mk #[]) = some (.inl (((48 + u % 10 : Nat) : Int) :: acc, (if neg then -((u / 10 : Nat) : Int) else ((u / 10 : Nat) : Int)), n, ByteArray.mk #[], ())) := by
  have hm : ∀ x : Nat, [((48 + u % 10 : Nat) : Int)].length + x = x + 1 := fun x => by simp; omega
  have b1 : ([((48 + u % 10 : Nat) : Int)].length + acc.length).ble 1073741824 = true := ble_of (by rw [hm]; omega)
  have hcond : ∀ {α : Type} (x y : Tr α), brT ((acc.length : Int) == 0) x (brT ((if neg then -(u : Int) else (u : Int)) != 0) x y) = x := fun x y => by
    rcases hne with rfl | h
    · rfl
    · have e : ((if neg then -(u : Int) else (u : Int)) != 0) = true := by
        rw [bne_iff_ne]; cases neg <;> simp <;> omega
      rw [e]
      cases ((acc.length : Int) == 0) <;> rfl
  have key : (48 + u % 10 : Nat) < 256 := by omega
  cases neg with
  | false =>
    have e1 : ((u : Int)).tmod 10 = ((u % 10 : Nat) : Int) := rfl
    have e2 : ((u : Int)).tdiv 10 = ((u / 10 : Nat) : Int) := rfl
    have e3 : IntKind.u8.wrap (IntKind.i64.wrap (48 + ((u % 10 : Nat) : Int))) = ((48 + u % 10 : Nat) : Int) := by rw [wrap_small (by omega) (by omega), wrap8]; omega
    simp only [Bool.false_eq_true, if_false] at hcond ⊢
    simp only [st_spec_l01Dec_0, e1, e2, e3, wrap_small (i := ((u / 10 : Nat) : Int)) (by omega) (by omega), df (show ¬ ((u % 10 : Nat) : Int) < 0 by omega), Nat.beq_refl, b1]
    exact hcond _ _
  | true =>
    have e1 : (-(u : Int)).tmod 10 = -((u % 10 : Nat) : Int) := by rw [Int.neg_tmod]; rfl
    have e2 : (-(u : Int)).tdiv 10 = -((u / 10 : Nat) : Int) := by rw [Int.neg_tdiv]; rfl
    have e0 : IntKind.i64.wrap (0 - -((u % 10 : Nat) : Int)) = ((u % 10 : Nat) : Int) := by rw [wrap_small (by omega) (by omega)]; omega
    have e3 : IntKind.u8.wrap (IntKind.i64.wrap (48 + ((u % 10 : Nat) : Int))) = ((48 + u % 10 : Nat) : Int) := by rw [wrap_small (by omega) (by omega), wrap8]; omega
    have e4 : IntKind.u8.wrap (IntKind.i64.wrap (48 + -((u % 10 : Nat) : Int))) = IntKind.u8.wrap (IntKind.i64.wrap (48 + -((u % 10 : Nat) : Int))) := rfl
    simp only [if_true] at hcond ⊢
    by_cases c : u % 10 = 0
    · have e5 : -((u % 10 : Nat) : Int) = ((u % 10 : Nat) : Int) := by omega
      simp only [st_spec_l01Dec_0, e1, e2, e5, e3, wrap_small (i := -((u / 10 : Nat) : Int)) (by omega) (by omega), df (show ¬ ((u % 10 : Nat) : Int) < 0 by omega), Nat.beq_refl, b1]
      exact hcond _ _
    · simp only [st_spec_l01Dec_0, e1, e2, e0, e3, wrap_small (i := -((u / 10 : Nat) : Int)) (by omega) (by omega), dt (show -((u % 10 : Nat) : Int) < 0 by omega), Nat.beq_refl, b1]
      exact hcond _ _

theorem dec_run (neg : Bool) (n : Int) : ∀ (k u : Nat) (acc : List Int), u < 10 ^ k → k ≤ 16 → u ≤ 1000000000000000 → acc ≠ [] → acc.length + k ≤ 100 →
    W_spec_l01Dec_0 R (acc, (if neg then -(u : Int) else (u : Int)), n, ByteArray.mk #[], ()) = some (n, dB u ++ acc, ByteArray.mk #[], ()) := by
  intro k
  have hout : ∀ acc : List Int, acc ≠ [] → W_spec_l01Dec_0 R (acc, (if neg then -((0 : Nat) : Int) else ((0 : Nat) : Int)), n, ByteArray.mk #[], ()) = some (n, dB 0 ++ acc, ByteArray.mk #[], ()) := fun acc ha => by
    rw [dB_zero, List.nil_append]
    refine runW_out ?_
    have e0 : (if neg then -((0 : Nat) : Int) else ((0 : Nat) : Int)) = 0 := by cases neg <;> rfl
    have e1 : ((acc.length : Int) == 0) = false := by
      have : 0 < acc.length := List.length_pos_iff.2 ha
      exact beq_eq_false_iff_ne.2 (by omega)
    simp only [e0, st_spec_l01Dec_0, e1, Nat.beq_refl]
    rfl
  induction k with
  | zero =>
    intro u acc h _ _ ha _
    obtain rfl : u = 0 := by simpa using h
    exact hout acc ha
  | succ k ih =>
    intro u acc h hk hu ha hl
    by_cases c : u = 0
    · subst c; exact hout acc ha
    · have hs := dec_step acc u neg n hu (by omega) (.inr c)
      have hon : W_spec_l01Dec_0 R (acc, (if neg then -(u : Int) else (u : Int)), n, ByteArray.mk #[], ()) = W_spec_l01Dec_0 R (((48 + u % 10 : Nat) : Int) :: acc, (if neg then -((u / 10 : Nat) : Int) else ((u / 10 : Nat) : Int)), n, ByteArray.mk #[], ()) := runW_on hs
      rw [hon, ih (u / 10) _ (by rw [Nat.pow_succ] at h; exact Nat.div_lt_of_lt_mul (by rw [Nat.mul_comm]; exact h)) (by omega) (by omega) (by simp) (by simp; omega), dB_pos c, List.append_assoc]
      rfl

theorem l01Dec_eq (n : Int) (h : inR n) : p_spec_l01Dec R n = ofL (Lib.itoa n) ∧ r_spec_l01Dec R n = true := by
  obtain ⟨h0, h1⟩ := h
  have main : ∀ (neg : Bool) (u : Nat), u ≤ 1000000000000000 → n = (if neg then -(u : Int) else (u : Int)) → c0_spec_l01Dec R n = some (n, (if u = 0 then [48] else dB u), ByteArray.mk #[], ()) := fun neg u hu hn => by
    have hs := dec_step [] u neg n hu (by simp) (.inl rfl)
    have hon : W_spec_l01Dec_0 R ([], (if neg then -(u : Int) else (u : Int)), n, ByteArray.mk #[], ()) = W_spec_l01Dec_0 R (((48 + u % 10 : Nat) : Int) :: [], (if neg then -((u / 10 : Nat) : Int) else ((u / 10 : Nat) : Int)), n, ByteArray.mk #[], ()) := runW_on hs
    have hr := dec_run neg n 16 (u / 10) [((48 + u % 10 : Nat) : Int)] (by omega) (by omega) (by omega) (by simp) (by simp)
    have e : c0_spec_l01Dec R n = W_spec_l01Dec_0 R ([], (if neg then -(u : Int) else (u : Int)), n, ByteArray.mk #[], ()) := by
      unfold c0_spec_l01Dec; rw [← hn]
    rw [e, hon, hr]
    by_cases c : u = 0
    · subst c
      rw [if_pos rfl]
      show some (n, dB 0 ++ [((48 + 0 % 10 : Nat) : Int)], ByteArray.mk #[], ()) = _
      rw [dB_zero]; rfl
    · rw [if_neg c, dB_pos c]
  have fin : ∀ (u : Nat), p_bytes (if u = 0 then [48] else dB u) = ofL (Lib.decDigits u) := fun u => by
    by_cases c : u = 0
    · subst c; rw [if_pos rfl, Lib.decDigits, dif_pos (by decide)]; rfl
    · rw [if_neg c, ← dB_dec u c]; rfl
  unfold p_spec_l01Dec r_spec_l01Dec
  by_cases hn : n < 0
  · have hm := main true n.natAbs (by omega) (by simp; omega)
    have hlen : ((if n.natAbs = 0 then [48] else dB n.natAbs) : List Int).length ≤ 16 := by
      split
      · simp
      · exact dB_len 16 _ (by omega)
    rw [hm]
    simp only [Option.getD_some, Option.isSome_some]
    rw [dt hn]
    simp only [cond_true]
    refine ⟨?_, ?_⟩
    · rw [bytes_append, fin]
      unfold Lib.itoa
      rw [if_pos hn]
      apply ByteArray.ext
      simp [ofL, p_bytes]
    · generalize ((if n.natAbs = 0 then [48] else dB n.natAbs) : List Int) = z at hlen
      have : (1 + z.length).ble 1073741824 = true := ble_of (by omega)
      rw [this]
      rfl
  · have hm := main false n.toNat (by omega) (by simp; omega)
    rw [hm]
    simp only [Option.getD_some, Option.isSome_some]
    rw [df hn]
    simp only [cond_false]
    refine ⟨?_, rfl⟩
    rw [fin]
    unfold Lib.itoa
    rw [if_neg hn]
end Go.Dv
