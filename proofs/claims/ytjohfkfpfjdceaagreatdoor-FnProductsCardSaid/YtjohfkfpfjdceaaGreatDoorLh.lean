/- The plain law of texts of numbers: eight digits of a word. -/
import Derived.Test.YtjohfkfpfjdceaaGreatDoorWkb
import Derived.Test.YtjohfkfpfjdceaaGreatDoorGz
import Derived.Test.YtjohfkfpfjdceaaGreatDoorLq
import Derived.Laws.Bits64b

set_option linter.unusedSimpArgs false
namespace Go.Dv
open Go.Cv

/-! ### bytes -/
theorem p_bytes_append (a b : List Int) : p_bytes a ++ p_bytes b = p_bytes (a ++ b) := by
  unfold p_bytes
  apply ByteArray.ext
  simp
theorem p_bytes_size (a : List Int) : (p_bytes a).size = a.length := by
  show (p_bytes a).data.size = _
  simp [p_bytes]

/-- the digits -/
def D16 : ByteArray := { data := #[48, 49, 50, 51, 52, 53, 54, 55, 56, 57, 97, 98, 99, 100, 101, 102] }
def D36 : ByteArray := { data := #[48, 49, 50, 51, 52, 53, 54, 55, 56, 57, 97, 98, 99, 100, 101, 102, 103, 104, 105, 106, 107, 108, 109, 110, 111, 112, 113, 114, 115, 116, 117, 118, 119, 120, 121, 122] }
def hd (n : Nat) : Int := p_byteAt D16 (n : Int)
theorem hd36 (n : Nat) (h : n < 16) : p_byteAt D36 (n : Int) = hd n := by
  have : ∀ k : Fin 16, p_byteAt D36 ((k.1 : Nat) : Int) = hd k.1 := by decide
  exact this ⟨n, h⟩

theorem ediv_nat (a c : Nat) : (a : Int) / Int.ofNat c = ((a / c : Nat) : Int) := rfl
theorem ge_nat (a c : Nat) : decide ((a : Int) ≥ Int.ofNat c) = decide (a ≥ c) := by
  apply decide_eq_decide.2
  show (c : Int) ≤ (a : Int) ↔ _
  omega
theorem and15 (a : Nat) : a &&& 15 = a % 16 := Nat.and_two_pow_sub_one_eq_mod a 4
theorem band_u (a : Nat) (h : a < 18446744073709551616) : bits .and .u64 (a : Int) (Int.ofNat 15) = ((a % 16 : Nat) : Int) := by
  show bits .and .u64 (a : Int) ((15 : Nat) : Int) = _
  rw [bits_and_u64_nat a 15 h (by omega), and15]
/-- a word's eight digits -/
def hex8 (b : Nat) : List Int := [hd (b / 268435456 % 16), hd (b / 16777216 % 16), hd (b / 1048576 % 16), hd (b / 65536 % 16), hd (b / 4096 % 16), hd (b / 256 % 16), hd (b / 16 % 16), hd (b % 16)]
/-- without the zeros ahead -/
def digs (b : Nat) : List Int := (hex8 b).drop (if b < 16 then 7 else if b < 256 then 6 else if b < 4096 then 5 else if b < 65536 then 4 else if b < 1048576 then 3 else if b < 16777216 then 2 else if b < 268435456 then 1 else 0)

theorem dt {p : Prop} [Decidable p] (h : p) : decide p = true := decide_eq_true h
theorem df {p : Prop} [Decidable p] (h : ¬ p) : decide p = false := decide_eq_false h

set_option maxHeartbeats 4000000 in
set_option maxRecDepth 10000 in
theorem fmt_eq (b : Nat) (h : b < 4294967296) : p_internal_strconv_formatBits_16 R [] (b : Int) = ([], p_bytes (digs b)) ∧ r_internal_strconv_formatBits_16 R [] (b : Int) = true := by
  have hm : ∀ n : Nat, decide ((((n % 16 : Nat) : Int)) < Int.ofNat 36) = true := fun n => dt (by show ((n % 16 : Nat) : Int) < ((36 : Nat) : Int); omega)
  have hz : ∀ n : Nat, decide (0 ≤ (n : Int)) = true := fun n => dt (by omega)
  have hl : ∀ n : Nat, n < 16 → decide ((n : Int) < Int.ofNat 36) = true := fun n hn => dt (by show (n : Int) < ((36 : Nat) : Int); omega)
  have hD : ∀ n : Nat, p_byteAt { data := #[48, 49, 50, 51, 52, 53, 54, 55, 56, 57, 97, 98, 99, 100, 101, 102, 103, 104, 105, 106, 107, 108, 109, 110, 111, 112, 113, 114, 115, 116, 117, 118, 119, 120, 121, 122] } ((n % 16 : Nat) : Int) = hd (n % 16) := fun n => hd36 _ (Nat.mod_lt _ (by omega))
  have hE : ∀ n : Nat, n < 16 → p_byteAt { data := #[48, 49, 50, 51, 52, 53, 54, 55, 56, 57, 97, 98, 99, 100, 101, 102, 103, 104, 105, 106, 107, 108, 109, 110, 111, 112, 113, 114, 115, 116, 117, 118, 119, 120, 121, 122] } (n : Int) = hd n := fun n hn => hd36 _ hn
  unfold p_internal_strconv_formatBits_16 r_internal_strconv_formatBits_16
  simp only [ediv_nat, ge_nat, Nat.div_div_eq_div_mul, Nat.reduceMul]
  have hb : ∀ n : Nat, n < 4294967296 → bits .and .u64 (n : Int) (Int.ofNat 15) = ((n % 16 : Nat) : Int) := fun n hn => band_u n (by omega)
  by_cases c1 : b < 16
  · have d0 : decide (b ≥ 16) = false := df (by omega)
    have l1 : b < 16 := by omega
    simp only [d0, cond_true, cond_false, hz, hl _ l1, hE _ l1, hm, hD, Bool.true_and, Bool.and_true]
    refine ⟨?_, trivial⟩
    unfold digs hex8
    rw [if_pos c1, Nat.mod_eq_of_lt l1]
    rfl
  have d0 : decide (b ≥ 16) = true := dt (by omega)
  by_cases c2 : b < 256
  · have d1 : decide (b / 16 ≥ 16) = false := df (by omega)
    have l1 : b / 16 < 16 := by omega
    simp only [d0, d1, cond_true, cond_false, hz, hl _ l1, hE _ l1, hb (b) (by omega), hm, hD, Bool.true_and, Bool.and_true]
    refine ⟨?_, trivial⟩
    unfold digs hex8
    rw [if_neg c1, if_pos c2, Nat.mod_eq_of_lt l1]
    rfl
  have d1 : decide (b / 16 ≥ 16) = true := dt (by omega)
  by_cases c3 : b < 4096
  · have d2 : decide (b / 256 ≥ 16) = false := df (by omega)
    have l1 : b / 256 < 16 := by omega
    simp only [d0, d1, d2, cond_true, cond_false, hz, hl _ l1, hE _ l1, hb (b) (by omega), hb (b / 16) (by omega), hm, hD, Bool.true_and, Bool.and_true]
    refine ⟨?_, trivial⟩
    unfold digs hex8
    rw [if_neg c1, if_neg c2, if_pos c3, Nat.mod_eq_of_lt l1]
    rfl
  have d2 : decide (b / 256 ≥ 16) = true := dt (by omega)
  by_cases c4 : b < 65536
  · have d3 : decide (b / 4096 ≥ 16) = false := df (by omega)
    have l1 : b / 4096 < 16 := by omega
    simp only [d0, d1, d2, d3, cond_true, cond_false, hz, hl _ l1, hE _ l1, hb (b) (by omega), hb (b / 16) (by omega), hb (b / 256) (by omega), hm, hD, Bool.true_and, Bool.and_true]
    refine ⟨?_, trivial⟩
    unfold digs hex8
    rw [if_neg c1, if_neg c2, if_neg c3, if_pos c4, Nat.mod_eq_of_lt l1]
    rfl
  have d3 : decide (b / 4096 ≥ 16) = true := dt (by omega)
  by_cases c5 : b < 1048576
  · have d4 : decide (b / 65536 ≥ 16) = false := df (by omega)
    have l1 : b / 65536 < 16 := by omega
    simp only [d0, d1, d2, d3, d4, cond_true, cond_false, hz, hl _ l1, hE _ l1, hb (b) (by omega), hb (b / 16) (by omega), hb (b / 256) (by omega), hb (b / 4096) (by omega), hm, hD, Bool.true_and, Bool.and_true]
    refine ⟨?_, trivial⟩
    unfold digs hex8
    rw [if_neg c1, if_neg c2, if_neg c3, if_neg c4, if_pos c5, Nat.mod_eq_of_lt l1]
    rfl
  have d4 : decide (b / 65536 ≥ 16) = true := dt (by omega)
  by_cases c6 : b < 16777216
  · have d5 : decide (b / 1048576 ≥ 16) = false := df (by omega)
    have l1 : b / 1048576 < 16 := by omega
    simp only [d0, d1, d2, d3, d4, d5, cond_true, cond_false, hz, hl _ l1, hE _ l1, hb (b) (by omega), hb (b / 16) (by omega), hb (b / 256) (by omega), hb (b / 4096) (by omega), hb (b / 65536) (by omega), hm, hD, Bool.true_and, Bool.and_true]
    refine ⟨?_, trivial⟩
    unfold digs hex8
    rw [if_neg c1, if_neg c2, if_neg c3, if_neg c4, if_neg c5, if_pos c6, Nat.mod_eq_of_lt l1]
    rfl
  have d5 : decide (b / 1048576 ≥ 16) = true := dt (by omega)
  by_cases c7 : b < 268435456
  · have d6 : decide (b / 16777216 ≥ 16) = false := df (by omega)
    have l1 : b / 16777216 < 16 := by omega
    simp only [d0, d1, d2, d3, d4, d5, d6, cond_true, cond_false, hz, hl _ l1, hE _ l1, hb (b) (by omega), hb (b / 16) (by omega), hb (b / 256) (by omega), hb (b / 4096) (by omega), hb (b / 65536) (by omega), hb (b / 1048576) (by omega), hm, hD, Bool.true_and, Bool.and_true]
    refine ⟨?_, trivial⟩
    unfold digs hex8
    rw [if_neg c1, if_neg c2, if_neg c3, if_neg c4, if_neg c5, if_neg c6, if_pos c7, Nat.mod_eq_of_lt l1]
    rfl
  have d6 : decide (b / 16777216 ≥ 16) = true := dt (by omega)
  have d7 : decide (b / 268435456 ≥ 16) = false := df (by omega)
  have l1 : b / 268435456 < 16 := by omega
  simp only [d0, d1, d2, d3, d4, d5, d6, d7, cond_true, cond_false, hz, hl _ l1, hE _ l1, hb (b) (by omega), hb (b / 16) (by omega), hb (b / 256) (by omega), hb (b / 4096) (by omega), hb (b / 65536) (by omega), hb (b / 1048576) (by omega), hb (b / 16777216) (by omega), hm, hD, Bool.true_and, Bool.and_true]
  refine ⟨?_, trivial⟩
  unfold digs hex8
  rw [if_neg c1, if_neg c2, if_neg c3, if_neg c4, if_neg c5, if_neg c6, if_neg c7, Nat.mod_eq_of_lt l1]
  rfl
end Go.Dv
