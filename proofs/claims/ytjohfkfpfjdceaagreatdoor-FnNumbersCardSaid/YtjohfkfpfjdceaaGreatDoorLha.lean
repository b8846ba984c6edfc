/- The plain law of texts of numbers and places. -/
import Derived.Test.YtjohfkfpfjdceaaGreatDoorLh
import Derived.Test.YtjohfkfpfjdceaaGreatDoorNc
import Derived.Test.YtjohfkfpfjdceaaGreatDoorQd
import Derived.Test.YtjohfkfpfjdceaaGreatDoorZa
import Derived.Test.YtjohfkfpfjdceaaGreatDoorLo

set_option linter.unusedSimpArgs false
namespace Go.Dv
open Go.Cv

/-! ### words -/
theorem cmp_neq (k : FloatKind) (a b : Nat) : R.cmp .neq k a b = !R.cmp .eql k a b := by
  show (fcmp .neq k a b).getD false = !(fcmp .eql k a b).getD false
  simp [fcmp]
/-- a number's bits -/
def bw (x : Nat) : Nat := bif R.cmp .eql .f32 x x then x else 2143289344
theorem bits_eq (x : Nat) (h : x < 4294967296) : p_impl_BitsOf R x = (bw x : Int) ∧ r_impl_BitsOf R x = true ∧ bw x < 4294967296 := by
  unfold p_impl_BitsOf r_impl_BitsOf bw
  rw [cmp_neq]
  cases R.cmp .eql .f32 x x
  · exact ⟨rfl, rfl, (show (2143289344 : Nat) < 4294967296 by decide)⟩
  · refine ⟨?_, rfl, h⟩
    show IntKind.i64.wrap (x : Int) = _
    exact wrap_small (by omega) (by omega)
theorem l01Bits_eq (x : Nat) (h : x < 4294967296) : p_spec_l01Bits R x = (bw x : Int) ∧ r_spec_l01Bits R x = true := ⟨(bits_eq x h).1, (bits_eq x h).2.1⟩

/-- a number's text -/
def tx (x : Nat) : ByteArray := p_bytes (hex8 (bw x))
theorem tx_size (x : Nat) : (tx x).size = 8 := by unfold tx; rw [p_bytes_size]; rfl

theorem specHex_eq (x : Nat) (h : x < 4294967296) : p_spec_l01Hex R x = tx x ∧ r_spec_l01Hex R x = true := by
  obtain ⟨h1, h2⟩ := l01Bits_eq x h
  have hb := (bits_eq x h).2.2
  unfold p_spec_l01Hex r_spec_l01Hex
  rw [h1, h2]
  simp only [ediv_nat]
  have hi : ∀ n : Nat, bits .and .i64 ((bw x / n : Nat) : Int) 15 = ((bw x / n % 16 : Nat) : Int) := fun n => band_i _ (by have := Nat.div_le_self (bw x) n; omega)
  simp only [hi]
  have a1 : ∀ n : Nat, decide (0 ≤ ((n % 16 : Nat) : Int)) = true := fun n => dt (by omega)
  have a2 : ∀ n : Nat, decide (((n % 16 : Nat) : Int) < Int.ofNat 16) = true := fun n => dt (by show ((n % 16 : Nat) : Int) < ((16 : Nat) : Int); omega)
  simp only [a1, a2, Bool.and_true]
  refine ⟨?_, trivial⟩
  rw [Nat.div_one]
  rfl

theorem repeat_zeros (n : Nat) (h : n ≤ 8) : p_strings_Repeat R { data := #[48] } (n : Int) = p_bytes (List.replicate n 48) ∧ r_strings_Repeat R { data := #[48] } (n : Int) = true := by
  have : ∀ k : Fin 9, p_strings_Repeat R { data := #[48] } ((k.1 : Nat) : Int) = p_bytes (List.replicate k.1 48) := by
    intro k
    match k with
    | ⟨0, _⟩ => rfl
    | ⟨1, _⟩ => rfl
    | ⟨2, _⟩ => rfl
    | ⟨3, _⟩ => rfl
    | ⟨4, _⟩ => rfl
    | ⟨5, _⟩ => rfl
    | ⟨6, _⟩ => rfl
    | ⟨7, _⟩ => rfl
    | ⟨8, _⟩ => rfl
  refine ⟨this ⟨n, by omega⟩, ?_⟩
  unfold r_strings_Repeat
  rw [dt (by omega), dt (by omega)]
  rfl

def dropN (b : Nat) : Nat := if b < 16 then 7 else if b < 256 then 6 else if b < 4096 then 5 else if b < 65536 then 4 else if b < 1048576 then 3 else if b < 16777216 then 2 else if b < 268435456 then 1 else 0
theorem digs_eq (b : Nat) : digs b = (hex8 b).drop (dropN b) := rfl
theorem dropN_le (b : Nat) : dropN b ≤ 7 := by
  unfold dropN
  repeat' split
  all_goals omega
theorem digs_len (b : Nat) : (digs b).length = 8 - dropN b := by rw [digs_eq, List.length_drop]; rfl
theorem hd0 : hd 0 = 48 := by decide
theorem zeros_digs (b : Nat) : List.replicate (dropN b) 48 ++ digs b = hex8 b := by
  rw [digs_eq]
  have key : (hex8 b).take (dropN b) = List.replicate (dropN b) 48 := by
    unfold dropN hex8
    repeat' split
    all_goals
      simp only [List.take_succ_cons, List.take_zero, List.replicate]
      repeat' (rw [Nat.div_eq_of_lt (by omega)])
      try simp only [Nat.zero_mod, hd0]
  rw [← key, List.take_append_drop]

theorem text_eq (x : Nat) (h : x < 4294967296) : p_impl_bitsText R x = tx x ∧ r_impl_bitsText R x = true := by
  obtain ⟨h1, h2, h3⟩ := bits_eq x h
  obtain ⟨f1, f2⟩ := fmt_eq (bw x) h3
  have hw : IntKind.u64.wrap (bw x : Int) = (bw x : Int) := by rw [IntKind.wrap_u64]; omega
  have g1 : p_strconv_FormatInt_16 R (bw x : Int) = p_bytes (digs (bw x)) := by
    unfold p_strconv_FormatInt_16 p_internal_strconv_FormatInt_16
    rw [hw, f1]
  have g2 : r_strconv_FormatInt_16 R (bw x : Int) = true := by
    unfold r_strconv_FormatInt_16 r_internal_strconv_FormatInt_16
    rw [hw, f2, df (by omega)]; rfl
  unfold p_impl_bitsText r_impl_bitsText c2_impl_bitsText c1_impl_bitsText c0_impl_bitsText
  have hk := dropN_le (bw x)
  have e8 : IntKind.i64.wrap (8 - ((p_bytes (digs (bw x))).size : Int)) = ((dropN (bw x) : Nat) : Int) := by
    rw [p_bytes_size, digs_len, wrap_small (by omega) (by omega)]; omega
  obtain ⟨z1, z2⟩ := repeat_zeros (dropN (bw x)) (by omega)
  rw [h1, h2, g1, g2, e8, z1, z2, p_bytes_append, zeros_digs]
  refine ⟨rfl, ?_⟩
  rw [p_bytes_size, p_bytes_size, digs_len, List.length_replicate]
  have : Nat.ble (dropN (bw x) + (8 - dropN (bw x))) 4611686018427387904 = true := by rw [Nat.ble_eq]; omega
  rw [this]; rfl

/-! ### joined texts -/
def words (l : List Nat) (i : Nat) : List ByteArray := (l.take i).map tx
theorem words_succ (l : List Nat) (i : Nat) (h : i < l.length) : words l (i + 1) = words l i ++ [tx (l.getD i 0)] := by
  unfold words
  rw [List.take_succ_eq_append_getElem h, List.map_append, getD_lt h]; rfl
theorem words_len (l : List Nat) (i : Nat) (h : i ≤ l.length) : (words l i).length = i := by simp [words]; omega

theorem join_run (l : List Nat) (hl : l.length ≤ 1000000) (hx : ∀ x ∈ l, x < 4294967296) : c0_impl_joinTexts_float32 R l = some (words l l.length, { data := #[] }, ()) :=
  runW_count (step := fun x => st_impl_joinTexts_float32_0 R x.2.1 x.2.2.1 x.2.2.2.1 x.2.2.2.2.1 x.2.2.2.2.2.1) (n := l.length) (mk := fun i => ((), words l i, l, (l.length : Int), (i : Int), { data := #[] }, ())) (o := (words l l.length, { data := #[] }, ()))
    (fun i hi => by
      simp only [st_impl_joinTexts_float32_0]
      rw [wrap_succ (by omega)]
      have a1 : decide ((i : Int) < (l.length : Int)) = true := dt (by omega)
      have a2 : decide (0 ≤ (i : Int)) = true := dt (by omega)
      have hv : l.getD ((i : Int)).toNat 0 = l.getD i 0 := rfl
      have hm : l.getD i 0 < 4294967296 := by rw [getD_lt hi]; exact hx _ (List.getElem_mem hi)
      obtain ⟨t1, t2⟩ := text_eq _ hm
      have b1 : Nat.ble ((words l i).length + 1) 1073741824 = true := by rw [words_len l i (by omega), Nat.ble_eq]; omega
      rw [hv, t1, t2, a1, a2, ← words_succ l i hi]
      simp only [List.length_singleton, b1, Nat.beq_refl, Bool.and_true]
      rfl)
    (by
      simp only [st_impl_joinTexts_float32_0]
      have a1 : decide ((l.length : Int) < (l.length : Int)) = false := df (by omega)
      rw [a1]
      simp only [Nat.beq_refl, Bool.and_true]
      rfl)

/-- the text after i numbers -/
def ntxUp (l : List Nat) : Nat → ByteArray
  | 0 => tx (l.getD 0 0)
  | i + 1 => ntxUp l i ++ ({ data := #[44] } ++ tx (l.getD (i + 1) 0))
theorem ntxUp_size (l : List Nat) : ∀ i, (ntxUp l i).size = 9 * i + 8
  | 0 => tx_size _
  | i + 1 => by
    show (ntxUp l i ++ ({ data := #[44] } ++ tx (l.getD (i + 1) 0))).size = _
    rw [ByteArray.size_append, ByteArray.size_append, ntxUp_size l i, tx_size]
    have : (ByteArray.mk #[44]).size = 1 := rfl
    omega

theorem ntx_run (l : List Nat) (hl : l.length ≤ 1000000) (h0 : 0 < l.length) (hx : ∀ x ∈ l, x < 4294967296) : c0_spec_l01NText R l = some (ntxUp l (l.length - 1), { data := #[] }, ()) := by
  have hm : ∀ i, i < l.length → l.getD i 0 < 4294967296 := fun i hi => by rw [getD_lt hi]; exact hx _ (List.getElem_mem hi)
  have h := runW_count (step := fun x => st_spec_l01NText_0 R x.1 x.2.1 x.2.2.1 x.2.2.2.1) (n := l.length - 1) (mk := fun i => (l, ntxUp l i, ((i + 1 : Nat) : Int), { data := #[] }, ())) (o := (ntxUp l (l.length - 1), { data := #[] }, ()))
    (fun i hi => by
      simp only [st_spec_l01NText_0]
      rw [wrap_succ (by omega)]
      have a1 : decide (((i + 1 : Nat) : Int) < (l.length : Int)) = true := dt (by omega)
      have a2 : decide (0 ≤ ((i + 1 : Nat) : Int)) = true := dt (by omega)
      have hv : l.getD (((i + 1 : Nat) : Int)).toNat 0 = l.getD (i + 1) 0 := rfl
      obtain ⟨t1, t2⟩ := specHex_eq _ (hm (i + 1) (by omega))
      have b1 : Nat.ble (1 + 8) 4611686018427387904 = true := by decide
      have b2 : Nat.ble ((ntxUp l i).size + (ByteArray.mk #[44] ++ tx (l.getD (i + 1) 0)).size) 4611686018427387904 = true := by
        rw [ByteArray.size_append, ntxUp_size, tx_size, Nat.ble_eq]
        have : (ByteArray.mk #[44]).size = 1 := rfl
        omega
      rw [hv, t1, t2, a1, a2, tx_size, b1, b2]
      rfl)
    (by
      simp only [st_spec_l01NText_0]
      have a1 : decide (((l.length - 1 + 1 : Nat) : Int) < (l.length : Int)) = false := df (by omega)
      rw [a1]
      rfl)
  have e : c0_spec_l01NText R l = W_spec_l01NText_0 R (l, p_spec_l01Hex R (l.getD 0 0), 1, { data := #[] }, ()) := rfl
  rw [e, (specHex_eq _ (hm 0 h0)).1]
  exact h

theorem ntx_join (l : List Nat) : ∀ i, i < l.length → (ntxUp l i).data.toList = Lib.join ((words l (i + 1)).map (·.data.toList)) [44]
  | 0, h => by
    have : words l 1 = [tx (l.getD 0 0)] := by rw [words_succ l 0 h]; rfl
    show (tx (l.getD 0 0)).data.toList = Lib.join ((words l 1).map (·.data.toList)) [44]
    rw [this]
    exact (Lib.join_one _ _).symm
  | i + 1, h => by
    have ih := ntx_join l i (by omega)
    have e0 : words l 1 = [tx (l.getD 0 0)] := by rw [words_succ l 0 (by omega)]; rfl
    have hne : words l (i + 1) = tx (l.getD 0 0) :: (words l (i + 1)).tail := by
      have hl : (words l (i + 1)).length = i + 1 := words_len l (i + 1) (by omega)
      cases hw : words l (i + 1) with
      | nil => rw [hw] at hl; simp at hl
      | cons a r =>
        have h1 : (words l (i + 1))[0]? = some a := by rw [hw]; rfl
        have h2 : (words l (i + 1))[0]? = some (tx (l.getD 0 0)) := by
          unfold words
          rw [List.getElem?_map, List.getElem?_take_of_lt (by omega), List.getElem?_eq_getElem (show 0 < l.length by omega), getD_lt (show 0 < l.length by omega)]; rfl
        rw [h1] at h2; cases h2; rfl
    rw [words_succ l (i + 1) h, List.map_append]
    rw [hne] at ih ⊢
    rw [List.map_cons, Lib.join_cons] at ih
    rw [List.map_cons, List.cons_append, Lib.join_cons]
    show (ntxUp l i ++ ({ data := #[44] } ++ tx (l.getD (i + 1) 0))).data.toList = _
    rw [ByteArray.data_append, ByteArray.data_append, Array.toList_append, Array.toList_append, ih]
    unfold Lib.joinTail
    simp

/-- **the texts of a list of numbers agree** -/
theorem ntext_eq (l : List Nat) (hl : l.length ≤ 1000000) (hx : ∀ x ∈ l, x < 4294967296) : p_impl_joinTexts_float32 R l = p_spec_l01NText R l ∧ r_impl_joinTexts_float32 R l = true ∧ r_spec_l01NText R l = true := by
  unfold p_impl_joinTexts_float32 r_impl_joinTexts_float32 p_spec_l01NText r_spec_l01NText
  rcases Nat.eq_zero_or_pos l.length with h0 | h0
  · have : ((l.length : Int) == 0) = true := by rw [h0]; rfl
    rw [this]
    exact ⟨rfl, rfl, rfl⟩
  · have hne : ((l.length : Int) == 0) = false := by
      have : ¬ (l.length : Int) = 0 := by omega
      simpa using this
    rw [hne, join_run l hl hx, ntx_run l hl h0 hx]
    have hm0 : l.getD 0 0 < 4294967296 := by rw [getD_lt h0]; exact hx _ (List.getElem_mem h0)
    have hj := ntx_join l (l.length - 1) (by omega)
    rw [show l.length - 1 + 1 = l.length by omega] at hj
    have hsz : (ntxUp l (l.length - 1)).data.toList.length = 9 * (l.length - 1) + 8 := ntxUp_size l (l.length - 1)
    refine ⟨?_, ?_, ?_⟩
    · show p_strings_Join R (words l l.length) { data := #[44] } = ntxUp l (l.length - 1)
      unfold p_strings_Join
      show (⟨(Lib.join ((words l l.length).map (·.data.toList)) [44]).toArray⟩ : ByteArray) = _
      rw [← hj]
    · show (true && ((Nat.beq (words l l.length).length (words l l.length).length && true && r_strings_Join R (words l l.length) { data := #[44] }) && true)) = true
      rw [Nat.beq_refl]
      unfold r_strings_Join
      have e1 : decide ((words l l.length).length ≤ 1000000000) = true := dt (by rw [words_len l _ (Nat.le_refl _)]; omega)
      have e2 : decide ((Lib.join ((words l l.length).map (·.data.toList)) ({ data := #[44] } : ByteArray).data.toList).length ≤ 1000000000) = true := dt (by
        show (Lib.join ((words l l.length).map (·.data.toList)) [44]).length ≤ 1000000000
        rw [← hj, hsz]; omega)
      rw [e1, e2]; rfl
    · rw [(specHex_eq _ hm0).2, dt (show 0 < (l.length : Int) by omega)]; rfl

/-! ### texts of places -/
theorem toList_beq (a : ByteArray) : (a.toList == a.toList) = true := by simp
end Go.Dv
