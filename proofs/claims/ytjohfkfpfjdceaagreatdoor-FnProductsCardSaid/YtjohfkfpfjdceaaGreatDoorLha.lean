/- The plain law of texts of numbers and places. -/
import Derived.Test.YtjohfkfpfjdceaaGreatDoorLh
import Derived.Test.YtjohfkfpfjdceaaGreatDoorGa
import Derived.Test.YtjohfkfpfjdceaaGreatDoorLq

set_option linter.unusedSimpArgs false
namespace Go.Dv
open Go.Cv

/-! ### words -/
theorem cmp_neq (k : FloatKind) (a b : Nat) : R.cmp .neq k a b = !R.cmp .eql k a b := by
  show (fcmp .neq k a b).getD false = !(fcmp .eql k a b).getD false
  simp [fcmp]
/-- a number's bits -/
def bw (x : Nat) : Nat := bif R.cmp .eql .f32 x x then x else 2143289344
theorem bits_eq (x : Nat) (h : x < 4294967296) : p_impl_BitsOf R x = (bw x : Int) ∧ r_impl_BitsOf R x = true ∧ bw x < 4294967296 := by
  unfold p_impl_BitsOf r_impl_BitsOf bw
  rw [cmp_neq]
  cases R.cmp .eql .f32 x x
  · exact ⟨rfl, rfl, (show (2143289344 : Nat) < 4294967296 by decide)⟩
  · refine ⟨?_, rfl, h⟩
    show IntKind.i64.wrap (x : Int) = _
    exact wrap_small (by omega) (by omega)
theorem l01Bits_eq (x : Nat) (h : x < 4294967296) : p_spec_l01Bits R x = (bw x : Int) ∧ r_spec_l01Bits R x = true := ⟨(bits_eq x h).1, (bits_eq x h).2.1⟩

/-- a number's text -/
def tx (x : Nat) : ByteArray := p_bytes (hex8 (bw x))
theorem tx_size (x : Nat) : (tx x).size = 8 := by unfold tx; rw [p_bytes_size]; rfl

theorem repeat_zeros (n : Nat) (h : n ≤ 8) : p_strings_Repeat R { data := #[48] } (n : Int) = p_bytes (List.replicate n 48) ∧ r_strings_Repeat R { data := #[48] } (n : Int) = true := by
  have : ∀ k : Fin 9, p_strings_Repeat R { data := #[48] } ((k.1 : Nat) : Int) = p_bytes (List.replicate k.1 48) := by
    intro k
    match k with
    | ⟨0, _⟩ => rfl
    | ⟨1, _⟩ => rfl
    | ⟨2, _⟩ => rfl
    | ⟨3, _⟩ => rfl
    | ⟨4, _⟩ => rfl
    | ⟨5, _⟩ => rfl
    | ⟨6, _⟩ => rfl
    | ⟨7, _⟩ => rfl
    | ⟨8, _⟩ => rfl
  refine ⟨this ⟨n, by omega⟩, ?_⟩
  unfold r_strings_Repeat
  rw [dt (by omega), dt (by omega)]
  rfl

def dropN (b : Nat) : Nat := if b < 16 then 7 else if b < 256 then 6 else if b < 4096 then 5 else if b < 65536 then 4 else if b < 1048576 then 3 else if b < 16777216 then 2 else if b < 268435456 then 1 else 0
theorem digs_eq (b : Nat) : digs b = (hex8 b).drop (dropN b) := rfl
theorem dropN_le (b : Nat) : dropN b ≤ 7 := by
  unfold dropN
  repeat' split
  all_goals omega
theorem digs_len (b : Nat) : (digs b).length = 8 - dropN b := by rw [digs_eq, List.length_drop]; rfl
theorem hd0 : hd 0 = 48 := by decide
theorem zeros_digs (b : Nat) : List.replicate (dropN b) 48 ++ digs b = hex8 b := by
  rw [digs_eq]
  have key : (hex8 b).take (dropN b) = List.replicate (dropN b) 48 := by
    unfold dropN hex8
    repeat' split
    all_goals
      simp only [List.take_succ_cons, List.take_zero, List.replicate]
      repeat' (rw [Nat.div_eq_of_lt (by omega)])
      try simp only [Nat.zero_mod, hd0]
  rw [← key, List.take_append_drop]

theorem text_eq (x : Nat) (h : x < 4294967296) : p_impl_bitsText R x = tx x ∧ r_impl_bitsText R x = true := by
  obtain ⟨h1, h2, h3⟩ := bits_eq x h
  obtain ⟨f1, f2⟩ := fmt_eq (bw x) h3
  have hw : IntKind.u64.wrap (bw x : Int) = (bw x : Int) := by rw [IntKind.wrap_u64]; omega
  have g1 : p_strconv_FormatInt_16 R (bw x : Int) = p_bytes (digs (bw x)) := by
    unfold p_strconv_FormatInt_16 p_internal_strconv_FormatInt_16
    rw [hw, f1]
  have g2 : r_strconv_FormatInt_16 R (bw x : Int) = true := by
    unfold r_strconv_FormatInt_16 r_internal_strconv_FormatInt_16
    rw [hw, f2, df (by omega)]; rfl
  unfold p_impl_bitsText r_impl_bitsText c2_impl_bitsText c1_impl_bitsText c0_impl_bitsText
  have hk := dropN_le (bw x)
  have e8 : IntKind.i64.wrap (8 - ((p_bytes (digs (bw x))).size : Int)) = ((dropN (bw x) : Nat) : Int) := by
    rw [p_bytes_size, digs_len, wrap_small (by omega) (by omega)]; omega
  obtain ⟨z1, z2⟩ := repeat_zeros (dropN (bw x)) (by omega)
  rw [h1, h2, g1, g2, e8, z1, z2, p_bytes_append, zeros_digs]
  refine ⟨rfl, ?_⟩
  rw [p_bytes_size, p_bytes_size, digs_len, List.length_replicate]
  have : Nat.ble (dropN (bw x) + (8 - dropN (bw x))) 4611686018427387904 = true := by rw [Nat.ble_eq]; omega
  rw [this]; rfl

/-! ### joined texts -/
/-! ### texts of places -/
theorem toList_beq (a : ByteArray) : (a.toList == a.toList) = true := by simp
end Go.Dv
