/- The plain law of texts of grids. -/
import Derived.Test.YtbgpobiaaebbeaaDoorLha
import Derived.Test.YtbgpobiaaebbeaaDoorWkd
import Derived.Test.YtbgpobiaaebbeaaDoorNc
import Derived.Test.YtbgpobiaaebbeaaDoorLw
set_option linter.unusedSimpArgs false
namespace Go.Dv
open Go.Cv

/-! ### numbers of one digit or two -/
theorem dec_one {n x : Int} (h : st_spec_l01Dec_0 R [] n n { data := #[] } = some (.inl ([x], 0, n, { data := #[] }, ()))) : c0_spec_l01Dec R n = some (n, [x], { data := #[] }, ()) := by
  unfold c0_spec_l01Dec W_spec_l01Dec_0
  rw [runW_on h]
  exact runW_out (by rfl)
theorem dec_two {n m x y : Int} (h : st_spec_l01Dec_0 R [] n n { data := #[] } = some (.inl ([x], m, n, { data := #[] }, ()))) (h2 : st_spec_l01Dec_0 R [x] m n { data := #[] } = some (.inl ([y, x], 0, n, { data := #[] }, ()))) : c0_spec_l01Dec R n = some (n, [y, x], { data := #[] }, ()) := by
  unfold c0_spec_l01Dec W_spec_l01Dec_0
  rw [runW_on h, runW_on h2]
  exact runW_out (by rfl)

/-- a small number's text -/
def DecOk (n : Int) : Prop := p_impl_Decimal R n = p_spec_l01Dec R n ∧ r_impl_Decimal R n = true ∧ r_spec_l01Dec R n = true ∧ (p_spec_l01Dec R n).size ≤ 2
theorem decOk_one {n x : Int} (h : c0_spec_l01Dec R n = some (n, [x], { data := #[] }, ())) (h0 : decide (n < 0) = false) (h1 : p_impl_Decimal R n = p_bytes [x]) (h2 : r_impl_Decimal R n = true) : DecOk n := by
  have e : p_spec_l01Dec R n = p_bytes [x] := by
    unfold p_spec_l01Dec
    rw [h]
    show (bif decide (n < 0) then _ else _) = _
    rw [h0]; rfl
  refine ⟨by rw [e, h1], h2, ?_, by rw [e, p_bytes_size]; exact (show 1 ≤ 2 by omega)⟩
  unfold r_spec_l01Dec
  rw [h]
  show (true && (bif decide (n < 0) then _ else _)) = _
  rw [h0]; rfl
theorem decOk_two {n x y : Int} (h : c0_spec_l01Dec R n = some (n, [x, y], { data := #[] }, ())) (h0 : decide (n < 0) = false) (h1 : p_impl_Decimal R n = p_bytes [x, y]) (h2 : r_impl_Decimal R n = true) : DecOk n := by
  have e : p_spec_l01Dec R n = p_bytes [x, y] := by
    unfold p_spec_l01Dec
    rw [h]
    show (bif decide (n < 0) then _ else _) = _
    rw [h0]; rfl
  refine ⟨by rw [e, h1], h2, ?_, by rw [e, p_bytes_size]; exact (show 2 ≤ 2 by omega)⟩
  unfold r_spec_l01Dec
  rw [h]
  show (true && (bif decide (n < 0) then _ else _)) = _
  rw [h0]; rfl

theorem dec2 : DecOk 2 := decOk_one (dec_one (x := 50) rfl) rfl (by kernel_rfl) (by kernel_rfl)
theorem dec3 : DecOk 3 := decOk_one (dec_one (x := 51) rfl) rfl (by kernel_rfl) (by kernel_rfl)
theorem dec4 : DecOk 4 := decOk_one (dec_one (x := 52) rfl) rfl (by kernel_rfl) (by kernel_rfl)
theorem dec5 : DecOk 5 := decOk_one (dec_one (x := 53) rfl) rfl (by kernel_rfl) (by kernel_rfl)
theorem dec6 : DecOk 6 := decOk_one (dec_one (x := 54) rfl) rfl (by kernel_rfl) (by kernel_rfl)
theorem dec7 : DecOk 7 := decOk_one (dec_one (x := 55) rfl) rfl (by kernel_rfl) (by kernel_rfl)
theorem dec8 : DecOk 8 := decOk_one (dec_one (x := 56) rfl) rfl (by kernel_rfl) (by kernel_rfl)
theorem dec9 : DecOk 9 := decOk_one (dec_one (x := 57) rfl) rfl (by kernel_rfl) (by kernel_rfl)
theorem dec10 : DecOk 10 := decOk_two (dec_two (m := 1) (x := 48) (y := 49) rfl rfl) rfl (by kernel_rfl) (by kernel_rfl)
theorem dec11 : DecOk 11 := decOk_two (dec_two (m := 1) (x := 49) (y := 49) rfl rfl) rfl (by kernel_rfl) (by kernel_rfl)
theorem dec12 : DecOk 12 := decOk_two (dec_two (m := 1) (x := 50) (y := 49) rfl rfl) rfl (by kernel_rfl) (by kernel_rfl)
theorem dec13 : DecOk 13 := decOk_two (dec_two (m := 1) (x := 51) (y := 49) rfl rfl) rfl (by kernel_rfl) (by kernel_rfl)
theorem dec14 : DecOk 14 := decOk_two (dec_two (m := 1) (x := 52) (y := 49) rfl rfl) rfl (by kernel_rfl) (by kernel_rfl)
theorem dec15 : DecOk 15 := decOk_two (dec_two (m := 1) (x := 53) (y := 49) rfl rfl) rfl (by kernel_rfl) (by kernel_rfl)
theorem dec16 : DecOk 16 := decOk_two (dec_two (m := 1) (x := 54) (y := 49) rfl rfl) rfl (by kernel_rfl) (by kernel_rfl)
theorem dec_small {n : Int} (h : 2 ≤ n) (h2 : n ≤ 16) : DecOk n := by
  have : n = 2 ∨ n = 3 ∨ n = 4 ∨ n = 5 ∨ n = 6 ∨ n = 7 ∨ n = 8 ∨ n = 9 ∨ n = 10 ∨ n = 11 ∨ n = 12 ∨ n = 13 ∨ n = 14 ∨ n = 15 ∨ n = 16 := by omega
  rcases this with rfl | rfl | rfl | rfl | rfl | rfl | rfl | rfl | rfl | rfl | rfl | rfl | rfl | rfl | rfl
  · exact dec2
  · exact dec3
  · exact dec4
  · exact dec5
  · exact dec6
  · exact dec7
  · exact dec8
  · exact dec9
  · exact dec10
  · exact dec11
  · exact dec12
  · exact dec13
  · exact dec14
  · exact dec15
  · exact dec16

/-! ### the text of two numbers -/
theorem text_two {a b : Int} (ha : DecOk a) (hb : DecOk b) : p_spec_l01Text R [a, b] = p_spec_l01Dec R a ++ ({ data := #[44] } ++ p_spec_l01Dec R b) ∧ r_spec_l01Text R [a, b] = true := by
  have hc : c0_spec_l01Text R [a, b] = some (p_spec_l01Dec R a ++ ({ data := #[44] } ++ p_spec_l01Dec R b), { data := #[] }, ()) := by
    show runW _ ([a, b], p_spec_l01Dec R a, 1, (⟨#[]⟩ : ByteArray), ()) = _
    refine (runW_on (y := ([a, b], p_spec_l01Dec R a ++ ({ data := #[44] } ++ p_spec_l01Dec R b), 2, { data := #[] }, ())) ?_).trans (runW_out rfl)
    · show brT (r_spec_l01Dec R b) (brT ((1 + (p_spec_l01Dec R b).size).ble 4611686018427387904) (brT (((p_spec_l01Dec R a).size + ({ data := #[44] } ++ p_spec_l01Dec R b).size).ble 4611686018427387904) _ none) none) none = _
      have h1 := ha.2.2.2
      have h2 := hb.2.2.2
      have e1 : (1 + (p_spec_l01Dec R b).size).ble 4611686018427387904 = true := by rw [Nat.ble_eq]; omega
      have e2 : ((p_spec_l01Dec R a).size + ({ data := #[44] } ++ p_spec_l01Dec R b).size).ble 4611686018427387904 = true := by
        rw [ByteArray.size_append, Nat.ble_eq]
        have : (ByteArray.mk #[44]).size = 1 := rfl
        omega
      rw [hb.2.2.1, e1, e2]
      rfl
  unfold p_spec_l01Text r_spec_l01Text
  rw [hc]
  refine ⟨rfl, ?_⟩
  show (true && (r_spec_l01Dec R a && _)) = true
  rw [ha.2.2.1]; rfl

/-! ### lists of numbers -/
theorem finite_run (l : List Nat) (h : l.length ≤ 4611686018427387903) : p_spec_l02Finite R l = (l.all fun x => p_spec_l01Finite R x) ∧ r_spec_l02Finite R l = true := by
  have hr := runW_scan (n := l.length) (step := fun x => st_spec_l02Finite_0 R x.1 x.2.1 x.2.2.1) (test := fun i => p_spec_l01Finite R (l.getD i 0)) (mk := fun i => (l, (i : Int), false, ())) (oT := .inr (false, ())) (oF := fun _ => .inl (false, ()))
    (fun i hi => by
      simp only [st_spec_l02Finite_0]
      rw [wrap_succ (by omega)]
      have a1 : decide ((i : Int) < (l.length : Int)) = true := dt (by omega)
      have a2 : decide (0 ≤ (i : Int)) = true := dt (by omega)
      have hv : l.getD ((i : Int)).toNat 0 = l.getD i 0 := rfl
      rw [a1, a2, hv]
      cases p_spec_l01Finite R (l.getD i 0) <;> rfl)
    (by
      simp only [st_spec_l02Finite_0]
      have a1 : decide ((l.length : Int) < (l.length : Int)) = false := df (by omega)
      rw [a1]; rfl)
  have hc : c0_spec_l02Finite R l = runW (fun x => st_spec_l02Finite_0 R x.1 x.2.1 x.2.2.1) (l, ((0 : Nat) : Int), false, ()) := rfl
  unfold p_spec_l02Finite r_spec_l02Finite
  rcases hr with ⟨hall, hr⟩ | ⟨j, hj, ht, hr⟩
  · rw [hc, hr]
    refine ⟨?_, rfl⟩
    have : (l.all fun x => p_spec_l01Finite R x) = true := all_iff.1 fun i hi => by
      have := hall i hi; rwa [getD_lt hi] at this
    rw [this]; rfl
  · rw [hc, hr]
    refine ⟨?_, rfl⟩
    have : (l.all fun x => p_spec_l01Finite R x) = false := by
      rw [← Bool.not_eq_true]
      intro hall
      have := all_iff.2 hall j hj
      rw [getD_lt hj] at ht
      rw [ht] at this; cases this
    rw [this]; rfl

theorem copy_step (l : List Nat) (i : Nat) (h : i < l.length) : (l.take i ++ List.replicate (l.length - i) 0).set i (l.getD i 0) = l.take (i + 1) ++ List.replicate (l.length - (i + 1)) 0 := by
  have e : l.length - i = (l.length - (i + 1)) + 1 := by omega
  rw [List.set_append_right _ _ (by rw [List.length_take]; omega), List.length_take, Nat.min_eq_left (by omega), Nat.sub_self, e, List.replicate_succ, List.set_cons_zero, List.take_succ_eq_append_getElem h, getD_lt h, List.append_assoc]
  rfl
theorem toF_run (l : List Nat) (h : l.length ≤ 1048576) : p_laws_toFloat32S R l = l ∧ r_laws_toFloat32S R l = true := by
  have hr := runW_count (n := l.length) (step := fun x => st_laws_toFloat32S_0 R x.1 x.2.1 x.2.2.1) (mk := fun i => (l, l.take i ++ List.replicate (l.length - i) 0, (i : Int), (), ())) (o := (l, (), ()))
    (fun i hi => by
      simp only [st_laws_toFloat32S_0]
      rw [wrap_succ (by omega)]
      have a1 : decide ((i : Int) < (l.length : Int)) = true := dt (by omega)
      have a2 : decide (0 ≤ (i : Int)) = true := dt (by omega)
      have a3 : (l.take i ++ List.replicate (l.length - i) 0).length = l.length := by rw [List.length_append, List.length_take, List.length_replicate]; omega
      have a4 : Nat.blt ((i : Int)).toNat l.length = true := by show Nat.blt i l.length = true; rw [Nat.blt_eq]; exact hi
      have hv : l.getD ((i : Int)).toNat 0 = l.getD i 0 := rfl
      have hv2 : ((i : Int)).toNat = i := rfl
      rw [List.length_set, a3, a1, a2, a4, Nat.beq_refl, hv, hv2, copy_step l i hi]
      rfl)
    (by
      simp only [st_laws_toFloat32S_0]
      have a1 : decide ((l.length : Int) < (l.length : Int)) = false := df (by omega)
      rw [a1, Nat.sub_self, List.take_length]
      simp only [List.replicate_zero, List.append_nil, Nat.beq_refl]
      rfl)
  have hc : c0_laws_toFloat32S R l = some (l, (), ()) := by
    rw [← hr]
    show runW _ (l, List.replicate l.length 0, 0, (), ()) = runW _ (l, l.take 0 ++ List.replicate (l.length - 0) 0, ((0 : Nat) : Int), (), ())
    rfl
  unfold p_laws_toFloat32S r_laws_toFloat32S
  rw [hc]
  refine ⟨rfl, ?_⟩
  have a1 : decide ((l.length : Int) ≤ (l.length : Int)) = true := dt (by omega)
  have a2 : decide ((l.length : Int) ≤ Int.ofNat 1073741824) = true := dt (by show (l.length : Int) ≤ ((1073741824 : Nat) : Int); omega)
  show ((decide ((l.length : Int) ≤ (l.length : Int)) && decide ((l.length : Int) ≤ Int.ofNat 1073741824)) && ((Nat.beq _ _ && true) && (true && ((Nat.beq l.length l.length && true) && true)))) = true
  rw [a1, a2, Nat.beq_refl, Nat.beq_refl]; rfl

theorem eqF_run (l : List Nat) (h : l.length ≤ 1048576) : p_laws_eqFloat32S R l l = true ∧ r_laws_eqFloat32S R l l = true := by
  have hr := runW_count (n := l.length) (step := fun x => st_laws_eqFloat32S_0 R x.1 x.2.1 x.2.2.1 x.2.2.2.1) (mk := fun i => (l, l, (i : Int), false, ())) (o := .inr (false, ()))
    (fun i hi => by
      simp only [st_laws_eqFloat32S_0]
      rw [wrap_succ (by omega), sameFloat_refl]
      have a1 : decide ((i : Int) < (l.length : Int)) = true := dt (by omega)
      have a2 : decide (0 ≤ (i : Int)) = true := dt (by omega)
      rw [a1, a2]
      rfl)
    (by
      simp only [st_laws_eqFloat32S_0]
      have a1 : decide ((l.length : Int) < (l.length : Int)) = false := df (by omega)
      rw [a1]; rfl)
  have hc : c0_laws_eqFloat32S R l l = some (.inr (false, ())) := hr
  have hn : ((l.length : Int) != (l.length : Int)) = false := by simp
  unfold p_laws_eqFloat32S r_laws_eqFloat32S
  rw [hc, hn]
  exact ⟨rfl, rfl⟩

theorem eqGrid_refl (a b : Int) (l : List Nat) (h : l.length ≤ 1048576) : p_laws_eqGrid R a b l a b l = true ∧ r_laws_eqGrid R a b l a b l = true := by
  obtain ⟨h1, h2⟩ := eqF_run l h
  have hn : ∀ x : Int, (x != x) = false := fun x => by simp
  unfold p_laws_eqGrid r_laws_eqGrid
  rw [hn, hn, h1, h2]
  exact ⟨rfl, rfl⟩

theorem szF_small {l : List Nat} {a b : Int} (h : l.length ≤ 9223372036854775807) (hs : decide (p_laws_szGrid R a b l 1048576 < 0) = false) : l.length ≤ 1048576 := by
  have hs := of_decide_eq_false hs
  unfold p_laws_szGrid c0_laws_szGrid p_laws_szFloat32S at hs
  rw [wrap_small (by omega) (by omega)] at hs
  rcases Nat.lt_or_ge 1048576 l.length with hl | hl
  · exfalso
    rw [dt (show (1048576 : Int) - (l.length : Int) < 0 by omega)] at hs
    exact hs (show Int.negSucc 0 < 0 by decide)
  · exact hl

/-! ### texts of grids -/
theorem valid_eq (a b : Int) (l : List Nat) (h : l.length ≤ 1048576) : p_impl_ValidGrid R a b l = p_spec_l06Is R a b l ∧ r_impl_ValidGrid R a b l = true ∧ r_spec_l06Is R a b l = true ∧ (p_spec_l06Is R a b l = true → (2 ≤ a ∧ a ≤ 16) ∧ (2 ≤ b ∧ b ≤ 16) ∧ l.length ≤ 256) := by
  obtain ⟨f1, f2⟩ := finite_run l (by omega)
  have hs : p_impl_areSides R a b = p_spec_l06Sides R a b := rfl
  have hf : (l.all fun x => p_impl_IsFinite R x) = p_spec_l02Finite R l := by
    have e : (fun x => p_impl_IsFinite R x) = fun x => p_spec_l01Finite R x := funext fin_same
    rw [f1, e]
  have hl : p_impl_length_float32 R l = (l.length : Int) := rfl
  unfold p_impl_ValidGrid r_impl_ValidGrid r_spec_l06Is
  rw [hs, hl, hf, f2, dt (show l.length < 4611686018427387904 by omega)]
  refine ⟨rfl, ?_, ?_, fun hv => ?_⟩
  · cases p_spec_l06Sides R a b <;> cases ((l.length : Int) == IntKind.i64.wrap (a * b)) <;> rfl
  · cases p_spec_l06Sides R a b <;> cases ((l.length : Int) == IntKind.i64.wrap (a * b)) <;> rfl
  · unfold p_spec_l06Is at hv
    cases h1 : p_spec_l06Sides R a b
    · rw [h1] at hv; cases hv
    · rw [h1] at hv
      have h1' : (2 ≤ a ∧ a ≤ 16) ∧ (2 ≤ b ∧ b ≤ 16) := by
        unfold p_spec_l06Sides p_spec_l00In at h1
        by_cases c1 : a ≥ 2
        · by_cases c2 : a ≤ 16
          · by_cases c3 : b ≥ 2
            · by_cases c4 : b ≤ 16
              · exact ⟨⟨c1, c2⟩, c3, c4⟩
              · rw [dt c1, dt c2, dt c3, df c4] at h1; cases h1
            · rw [dt c1, dt c2, df c3] at h1; cases h1
          · rw [dt c1, df c2] at h1; cases h1
        · rw [df c1] at h1; cases h1
      refine ⟨h1'.1, h1'.2, ?_⟩
      cases h2 : ((l.length : Int) == IntKind.i64.wrap (a * b))
      · rw [h2] at hv; cases hv
      · have e : (l.length : Int) = IntKind.i64.wrap (a * b) := by simpa using h2
        have hm : a * b ≤ 16 * 16 := Int.mul_le_mul h1'.1.2 h1'.2.2 (by omega) (by omega)
        have hp : 0 ≤ a * b := Int.mul_nonneg (by omega) (by omega)
        rw [wrap_small (by omega) (by omega)] at e
        omega

theorem gridText_eq (a b : Int) (l : List Nat) (h : l.length ≤ 1048576) (hx : ∀ x ∈ l, x < 4294967296) : p_impl_GridText R a b l = p_spec_GridText R a b l ∧ r_impl_GridText R a b l = true ∧ r_spec_GridText R a b l = true := by
  obtain ⟨v1, v2, v3, v4⟩ := valid_eq a b l h
  unfold p_impl_GridText p_spec_GridText r_impl_GridText r_spec_GridText
  rw [v1, v2, v3]
  cases hv : p_spec_l06Is R a b l
  · exact ⟨rfl, rfl, rfl⟩
  · obtain ⟨⟨a1, a2⟩, ⟨b1, b2⟩, hl⟩ := v4 hv
    have da := dec_small a1 a2
    have db := dec_small b1 b2
    obtain ⟨t1, t2⟩ := text_two da db
    obtain ⟨e1, e2, e3⟩ := ntext_eq l (by omega) hx
    have hlist : p_impl_isList_float32 R l = true := dt (by omega)
    have hn : p_impl_numbers R l = p_spec_l01NText R l := by
      unfold p_impl_numbers p_impl_NumbersText
      rw [hlist, e1]; rfl
    have hr : r_impl_numbers R l = true := by
      unfold r_impl_numbers r_impl_NumbersText
      rw [hlist, e2]; rfl
    have hsz : (p_spec_l01NText R l).size ≤ 4000000 := by
      rcases Nat.eq_zero_or_pos l.length with h0 | h0
      · have : ((l.length : Int) == 0) = true := by rw [h0]; rfl
        unfold p_spec_l01NText
        rw [this]; exact (show 4 ≤ 4000000 by omega)
      · have hne : ((l.length : Int) == 0) = false := by
          have : ¬ (l.length : Int) = 0 := by omega
          simpa using this
        unfold p_spec_l01NText
        rw [hne, ntx_run l (by omega) h0 hx]
        show (ntxUp l (l.length - 1)).size ≤ 4000000
        rw [ntxUp_size]; omega
    have s1 : (ByteArray.mk #[44]).size = 1 := rfl
    have s2 : (ByteArray.mk #[59]).size = 1 := rfl
    have za := da.2.2.2
    have zb := db.2.2.2
    unfold p_impl_gridText p_spec_l08Grid r_impl_gridText r_spec_l08Grid c0_impl_gridText c1_impl_gridText c2_impl_gridText c0_spec_l08Grid c1_spec_l08Grid
    rw [hn, hr, e3, t1, t2, da.1, db.1, da.2.1, db.2.1]
    refine ⟨?_, ?_, ?_⟩
    · simp only [ByteArray.append_assoc, Bool.not_true, cond_false]
    · simp only [ByteArray.size_append, s1, s2]
      rw [show Nat.ble _ 4611686018427387904 = true from by rw [Nat.ble_eq]; omega, show Nat.ble _ 4611686018427387904 = true from by rw [Nat.ble_eq]; omega, show Nat.ble _ 4611686018427387904 = true from by rw [Nat.ble_eq]; omega, show Nat.ble _ 4611686018427387904 = true from by rw [Nat.ble_eq]; omega]
      rfl
    · simp only [ByteArray.size_append, s1, s2]
      rw [show Nat.ble _ 4611686018427387904 = true from by rw [Nat.ble_eq]; omega, show Nat.ble _ 4611686018427387904 = true from by rw [Nat.ble_eq]; omega]
      rfl

theorem law_GridText (a b : Int) (l : List Nat) (h : l.length ≤ 9223372036854775807) (hx : ∀ x ∈ l, x < 4294967296) : r_laws_FnExactGridText R a b l = true ∧ p_laws_FnExactGridText R a b l = true := by
  unfold r_laws_FnExactGridText p_laws_FnExactGridText c0_laws_FnExactGridText
  cases hs : decide (p_laws_szGrid R a b l 1048576 < 0)
  · have hl := szF_small h hs
    obtain ⟨t1, t2⟩ := toF_run l hl
    have hc : c1_laws_FnExactGridText R a b l = (a, b, l) := by
      unfold c1_laws_FnExactGridText p_laws_toGrid c0_laws_toGrid
      rw [t1]
    have hr : r_laws_toGrid R a b l = true := by
      unfold r_laws_toGrid
      rw [t2, Nat.beq_refl]; rfl
    unfold c2_laws_FnExactGridText c3_laws_FnExactGridText
    rw [hc, hr]
    obtain ⟨e1, e2, e3⟩ := gridText_eq a b l hl hx
    obtain ⟨q1, q2⟩ := eqGrid_refl a b l hl
    have hb : ∀ b : Bool, (b != b) = false := fun b => by cases b <;> rfl
    simp only [e1, e2, e3, q1, q2, toList_beq, hb]
    exact ⟨rfl, rfl⟩
  · exact ⟨rfl, rfl⟩

end Go.Dv
