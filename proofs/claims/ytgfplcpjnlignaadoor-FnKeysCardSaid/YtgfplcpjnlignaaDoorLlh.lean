/- The plain law of FnKeys. -/
import Derived.Test.YtgfplcpjnlignaaDoorLlg
import Derived.Test.YtgfplcpjnlignaaDoorLlb

set_option linter.unusedSimpArgs false
set_option linter.unusedVariables false
namespace Go.Dv
open Go.Cv

/-! ### boxes of tiles -/
theorem size_cast {z : Nat} (hz : z ≤ 20) : IntKind.i64.wrap (1 * 2 ^ (IntKind.i64.wrap (24 - (z : Int))).toNat) = ((2 ^ (24 - z) : Nat) : Int) := by
  have e : IntKind.i64.wrap (24 - (z : Int)) = ((24 - z : Nat) : Int) := by rw [wrap_small (by omega) (by omega)]; omega
  rw [e]
  exact many (by omega)
theorem size_mul {z : Nat} (hz : z ≤ 20) : 2 ^ z * 2 ^ (24 - z) = 16777216 ∧ 16 ≤ 2 ^ (24 - z) ∧ ∃ h, 2 ^ (24 - z) = 2 * h := by
  refine ⟨?_, ?_, 2 ^ (23 - z), ?_⟩
  · rw [← Nat.pow_add]
    have : z + (24 - z) = 24 := by omega
    rw [this]
  · have := Nat.pow_le_pow_right (n := 2) (show 0 < 2 by decide) (show 4 ≤ 24 - z by omega)
    exact this
  · have : 24 - z = (23 - z) + 1 := by omega
    rw [this, Nat.pow_succ, Nat.mul_comm]
theorem box_st {z x y : Nat} (hz : z ≤ 20) (hx : x < 2 ^ z) (hy : y < 2 ^ z) :
    ∃ A B C D, p_impl_KeyBox R (kt z x y) = (A, B, C, D, true) ∧ r_impl_KeyBox R (kt z x y) = true ∧
      Stp A ((y * 2 ^ (24 - z) / 2 : Nat) - 4194304 : Int) ∧ Stp B ((x * 2 ^ (24 - z) : Nat) - 8388608 : Int) ∧
      Stp C (((y * 2 ^ (24 - z) + 2 ^ (24 - z) - 1) / 2 : Nat) - 4194304 : Int) ∧ Stp D ((x * 2 ^ (24 - z) + 2 ^ (24 - z) - 1 : Nat) - 8388608 : Int) := by
  obtain ⟨k1, k2, _, _⟩ := keyTile_eq z x y hz hx hy
  obtain ⟨i1, i2, _, _⟩ := isKey_kt z x y hz
  obtain ⟨m1, m2, h, m3⟩ := size_mul hz
  have hX : x * 2 ^ (24 - z) + 2 ^ (24 - z) ≤ 16777216 := by
    have := Nat.mul_le_mul_right (2 ^ (24 - z)) (show x + 1 ≤ 2 ^ z from hx)
    rw [Nat.add_mul, Nat.one_mul] at this; omega
  have hY : y * 2 ^ (24 - z) + 2 ^ (24 - z) ≤ 16777216 := by
    have := Nat.mul_le_mul_right (2 ^ (24 - z)) (show y + 1 ≤ 2 ^ z from hy)
    rw [Nat.add_mul, Nat.one_mul] at this; omega
  have e0 : c0_impl_KeyBox R (kt z x y) = ((x : Int), (y : Int)) := k1
  have hs := kt_size z x y
  have u1 : (x : Int) * ((2 ^ (24 - z) : Nat) : Int) = ((x * 2 ^ (24 - z) : Nat) : Int) := (Int.natCast_mul _ _).symm
  have v1 : (y : Int) * ((2 ^ (24 - z) : Nat) : Int) = ((y * 2 ^ (24 - z) : Nat) : Int) := (Int.natCast_mul _ _).symm
  have d1 : decide (0 ≤ IntKind.i64.wrap (24 - (z : Int))) = true := dt (by rw [wrap_small (by omega) (by omega)]; omega)
  have d2 : decide (IntKind.i64.wrap (24 - (z : Int)) ≤ Int.ofNat 64) = true := dt (by rw [wrap_small (by omega) (by omega)]; show 24 - (z : Int) ≤ (64 : Int); omega)
  have hr : r_impl_KeyBox R (kt z x y) = true := by
    unfold r_impl_KeyBox
    rw [i1, i2, k2, hs, d1, d2]; rfl
  have f1 : c1_impl_KeyBox R (kt z x y) = p_impl_KeyBox_1 R ((x * 2 ^ (24 - z) : Nat) : Int) ((y * 2 ^ (24 - z) : Nat) : Int) := by
    unfold c1_impl_KeyBox
    rw [e0, hs, size_cast hz]
    simp only
    rw [u1, v1, wrap_small (i := ((x * 2 ^ (24 - z) : Nat) : Int)) (by omega) (by omega), wrap_small (i := ((y * 2 ^ (24 - z) : Nat) : Int)) (by omega) (by omega)]
  have f2 : c2_impl_KeyBox R (kt z x y) = p_impl_KeyBox_1 R ((x * 2 ^ (24 - z) + 2 ^ (24 - z) - 1 : Nat) : Int) ((y * 2 ^ (24 - z) + 2 ^ (24 - z) - 1 : Nat) : Int) := by
    unfold c2_impl_KeyBox
    rw [e0, hs, size_cast hz]
    simp only
    rw [u1, v1]
    generalize x * 2 ^ (24 - z) = u at *
    generalize y * 2 ^ (24 - z) = v at *
    generalize 2 ^ (24 - z) = S at *
    rw [wrap_small (i := (u : Int)) (by omega) (by omega), wrap_small (i := (v : Int)) (by omega) (by omega), wrap_small (i := (u : Int) + (S : Int)) (by omega) (by omega), wrap_small (i := (v : Int) + (S : Int)) (by omega) (by omega), wrap_small (i := (u : Int) + (S : Int) - 1) (by omega) (by omega), wrap_small (i := (v : Int) + (S : Int) - 1) (by omega) (by omega)]
    have a1 : (u : Int) + (S : Int) - 1 = ((u + S - 1 : Nat) : Int) := by omega
    have a2 : (v : Int) + (S : Int) - 1 = ((v + S - 1 : Nat) : Int) := by omega
    rw [a1, a2]
  have box1 : ∀ u v : Nat, u < 16777216 → v < 16777216 → p_impl_KeyBox_1 R (u : Int) (v : Int) = (R.bin .quo .f32 (R.ofi .f32 ((v / 2 : Nat) - 4194304 : Int)) 1266679808, R.bin .quo .f32 (R.ofi .f32 ((u : Nat) - 8388608 : Int)) 1266679808, true) := fun u v hu hv => by
    have t1 : IntKind.i64.wrap (IntKind.i64.wrap (((v : Int)).tdiv 2) - 4194304) = ((v / 2 : Nat) - 4194304 : Int) := by
      rw [Int.tdiv_eq_ediv_of_nonneg (by omega), wrap_small (i := (v : Int) / 2) (by omega) (by omega), wrap_small (by omega) (by omega)]
      omega
    have t2 : IntKind.i64.wrap ((u : Int) - 8388608) = (u : Int) - 8388608 := wrap_small (by omega) (by omega)
    have hc : c0_impl_KeyBox_1 R (u : Int) (v : Int) = (R.bin .quo .f32 (R.ofi .f32 ((v / 2 : Nat) - 4194304 : Int)) 1266679808, R.bin .quo .f32 (R.ofi .f32 ((u : Nat) - 8388608 : Int)) 1266679808, true) := by
      unfold c0_impl_KeyBox_1
      rw [t1, t2]
      exact place_st (by omega) (by omega) (by omega) (by omega)
    unfold p_impl_KeyBox_1
    rw [hc]
  have g1 := box1 (x * 2 ^ (24 - z)) (y * 2 ^ (24 - z)) (by omega) (by omega)
  have g2 := box1 (x * 2 ^ (24 - z) + 2 ^ (24 - z) - 1) (y * 2 ^ (24 - z) + 2 ^ (24 - z) - 1) (by omega) (by omega)
  rw [g1] at f1
  rw [g2] at f2
  refine ⟨_, _, _, _, ?_, hr, st_of (by omega), st_of (by omega), st_of (by omega), st_of (by omega)⟩
  unfold p_impl_KeyBox
  rw [i1, f1, f2]; rfl

/-! ### tiles beside -/
theorem tmod_twice (a : Int) {m : Int} (hm : 0 < m) : (a.tmod m + m).tmod m = a % m := by
  have h1 : -m < a.tmod m := by
    have := Int.lt_tmod_of_pos a hm
    exact this
  have h2 : (a.tmod m + m).tmod m = (a.tmod m + m) % m := Int.tmod_eq_emod_of_nonneg (by omega)
  rw [h2, Int.add_emod_right, Int.tmod_def, Int.sub_emod, Int.mul_emod_right, Int.sub_zero, Int.emod_emod]
theorem beside_eq {z x y : Nat} (hz : z ≤ 20) (hx : x < 2 ^ z) (hy : y < 2 ^ z) {ea no : Int} (h1 : -100 ≤ ea) (h2 : ea ≤ 100) (h3 : -100 ≤ no) (h4 : no ≤ 100) :
    p_impl_KeyBeside R (kt z x y) ea no = (if 0 ≤ (y : Int) + no ∧ (y : Int) + no < ((2 ^ z : Nat) : Int) then (kt z (((x : Int) + ea) % ((2 ^ z : Nat) : Int)).toNat ((y : Int) + no).toNat, true) else (ByteArray.mk #[], false)) ∧
    r_impl_KeyBeside R (kt z x y) ea no = true ∧ (p_spec_KeyBeside R (kt z x y) ea no).2 = decide (0 ≤ (y : Int) + no ∧ (y : Int) + no < ((2 ^ z : Nat) : Int)) ∧ r_spec_KeyBeside R (kt z x y) ea no = true := by
  obtain ⟨k1, k2, k3, k4⟩ := keyTile_eq z x y hz hx hy
  obtain ⟨i1, i2, i3, i4⟩ := isKey_kt z x y hz
  have hs := kt_size z x y
  have hp := pow20 (z := z) (by omega)
  have hp0 : 0 < 2 ^ z := Nat.two_pow_pos z
  have e0 : c0_impl_KeyBeside R (kt z x y) ea no = ((x : Int), (y : Int)) := k1
  have e1 : c0_spec_KeyBeside R (kt z x y) ea no = ((x : Int), (y : Int)) := k3
  have em : IntKind.i64.wrap (1 * 2 ^ ((z : Int)).toNat) = ((2 ^ z : Nat) : Int) := many (by omega)
  have hm : 0 < ((2 ^ z : Nat) : Int) := by omega
  have hmod0 := Int.emod_nonneg ((x : Int) + ea) (show ((2 ^ z : Nat) : Int) ≠ 0 by omega)
  have hmod1 := Int.emod_lt_of_pos ((x : Int) + ea) hm
  have et : (IntKind.i64.wrap ((IntKind.i64.wrap ((x : Int) + ea)).tmod ((2 ^ z : Nat) : Int) + ((2 ^ z : Nat) : Int))).tmod ((2 ^ z : Nat) : Int) = (((((x : Int) + ea) % ((2 ^ z : Nat) : Int)).toNat : Nat) : Int) := by
    have t1 := Int.lt_tmod_of_pos ((x : Int) + ea) hm
    have t2 := Int.tmod_lt_of_pos ((x : Int) + ea) hm
    rw [wrap_small (i := (x : Int) + ea) (by omega) (by omega), wrap_small (by omega) (by omega), tmod_twice _ hm]
    omega
  have ey : IntKind.i64.wrap ((y : Int) + no) = (y : Int) + no := wrap_small (by omega) (by omega)
  have w1 : p_impl_within R ea (Int.negSucc 999999) 1000000 = true := by
    unfold p_impl_within
    rw [dt (show Int.negSucc 999999 ≤ ea by omega), dt (show ea ≤ 1000000 by omega)]; rfl
  have w2 : p_impl_within R no (Int.negSucc 999999) 1000000 = true := by
    unfold p_impl_within
    rw [dt (show Int.negSucc 999999 ≤ no by omega), dt (show no ≤ 1000000 by omega)]; rfl
  have w3 : ∀ a b c, p_spec_l00In R a b c = p_impl_within R a b c := fun _ _ _ => rfl
  obtain ⟨q1, q2⟩ := TileKey_eq hz (x := (((x : Int) + ea) % ((2 ^ z : Nat) : Int)).toNat) (y := (y : Int) + no) (by omega)
  have e2 : c1_impl_KeyBeside R (kt z x y) ea no = p_impl_TileKey R (z : Int) (((((x : Int) + ea) % ((2 ^ z : Nat) : Int)).toNat : Nat) : Int) ((y : Int) + no) := by
    unfold c1_impl_KeyBeside
    rw [e0, hs, em]
    simp only
    rw [et, ey]
  have hne : ((((2 ^ z : Nat) : Int)) == 0) = false := by
    have : ¬ ((2 ^ z : Nat) : Int) = 0 := by omega
    simpa using this
  have d64 : decide ((z : Int) ≤ Int.ofNat 64) = true := dt (by show (z : Int) ≤ (64 : Int); omega)
  have htw := tile_within hz (x := (y : Int) + no)
  rw [em] at htw
  refine ⟨?_, ?_, ?_, ?_⟩
  · unfold p_impl_KeyBeside
    rw [i1, w1, w2, e2, q1]
    by_cases h : 0 ≤ (y : Int) + no ∧ (y : Int) + no < ((2 ^ z : Nat) : Int)
    · rw [if_pos h]; rfl
    · rw [if_neg h]; rfl
  · unfold r_impl_KeyBeside
    rw [i1, i2, w1, w2, k2, e0, hs, em, hne, d64]
    simp only
    rw [et, ey, q2]; rfl
  · unfold p_spec_KeyBeside
    rw [i3, e1, hs, em]
    simp only
    rw [et, ey, w3, w3, w3, w1, w2, htw]
    by_cases h : 0 ≤ (y : Int) + no ∧ (y : Int) + no < ((2 ^ z : Nat) : Int)
    · rw [dt h]; rfl
    · rw [df h]; rfl
  · unfold r_spec_KeyBeside
    rw [i3, i4, e1, hs, em, k4, hne, d64]
    simp only
    rw [et, ey, w3, w3, w3, w1, w2, htw, l07Key_ok z hz]
    by_cases h : 0 ≤ (y : Int) + no ∧ (y : Int) + no < ((2 ^ z : Nat) : Int)
    · rw [dt h]; rfl
    · rw [df h]; rfl
theorem back_mod (x ea : Int) {m : Int} (h0 : 0 ≤ x) (h1 : x < m) : ((x + ea) % m + -ea) % m = x := by
  rw [Int.emod_add_emod]
  have : x + ea + -ea = x := by omega
  rw [this, Int.emod_eq_of_lt h0 h1]

/-! ### keys of parents -/
theorem take_kl {z : Nat} (hz : z ≤ 20) (hz1 : 1 ≤ z) (X Y : Nat) : (kl z (X / 2 ^ (24 - z)) (Y / 2 ^ (24 - z))).take (z - 1) = kl (z - 1) (X / 2 ^ (24 - (z - 1))) (Y / 2 ^ (24 - (z - 1))) := by
  refine List.ext_getElem (by simp [kl_len]) fun k h1 h2 => ?_
  have hk : k < z - 1 := by rw [kl_len] at h2; exact h2
  rw [List.getElem_take, kl_get (by omega), kl_get hk]
  have e1 : 24 - z + (z - 1 - k) = 23 - k := by omega
  have e2 : 24 - (z - 1) + (z - 1 - 1 - k) = 23 - k := by omega
  have key : ∀ W : Nat, W / 2 ^ (24 - z) / 2 ^ (z - 1 - k) = W / 2 ^ (24 - (z - 1)) / 2 ^ (z - 1 - 1 - k) := fun W => by
    rw [Nat.div_div_eq_div_mul, Nat.div_div_eq_div_mul, ← Nat.pow_add, ← Nat.pow_add, e1, e2]
  unfold dgt
  rw [key X, key Y]
theorem sub_bytes (l : List Int) (n : Nat) : p_sub (p_bytes l) 0 n = p_bytes (l.take n) := by
  unfold p_sub p_bytes
  apply ByteArray.ext
  apply Array.ext'
  simp
theorem parent_eq {z : Nat} (hz : z ≤ 20) (X Y : Nat) : r_impl_KeyParent R (kt z (X / 2 ^ (24 - z)) (Y / 2 ^ (24 - z))) = true ∧
    p_impl_KeyParent R (kt z (X / 2 ^ (24 - z)) (Y / 2 ^ (24 - z))) = (if z = 0 then (ByteArray.mk #[], false) else (kt (z - 1) (X / 2 ^ (24 - (z - 1))) (Y / 2 ^ (24 - (z - 1))), true)) := by
  obtain ⟨i1, i2, _, _⟩ := isKey_kt z (X / 2 ^ (24 - z)) (Y / 2 ^ (24 - z)) hz
  have hs := kt_size z (X / 2 ^ (24 - z)) (Y / 2 ^ (24 - z))
  unfold r_impl_KeyParent p_impl_KeyParent
  rw [i1, i2]
  by_cases h : z = 0
  · subst h
    have hb : ((kt 0 (X / 2 ^ (24 - 0)) (Y / 2 ^ (24 - 0))).toList == (ByteArray.mk #[]).toList) = true := toList_beq _
    rw [hb]; exact ⟨rfl, rfl⟩
  · have hb : ((kt z (X / 2 ^ (24 - z)) (Y / 2 ^ (24 - z))).toList == (ByteArray.mk #[]).toList) = false := by
      cases hb : ((kt z (X / 2 ^ (24 - z)) (Y / 2 ^ (24 - z))).toList == (ByteArray.mk #[]).toList)
      · rfl
      · exfalso
        have h1 := eq_of_beq hb
        rw [ByteArray.toList_eq, ByteArray.toList_eq] at h1
        have h2 : (kt z (X / 2 ^ (24 - z)) (Y / 2 ^ (24 - z))).data.toList.length = 0 := by rw [h1]; rfl
        have h3 : (kt z (X / 2 ^ (24 - z)) (Y / 2 ^ (24 - z))).data.toList.length = z := hs
        omega
    have ew : IntKind.i64.wrap ((z : Int) - 1) = ((z - 1 : Nat) : Int) := by rw [wrap_small (by omega) (by omega)]; omega
    rw [hb, hs, ew, if_neg h]
    have d1 : decide (Int.ofNat 0 ≤ (some ((z - 1 : Nat) : Int)).getD (z : Int)) = true := dt (by show (0 : Int) ≤ ((z - 1 : Nat) : Int); omega)
    have d2 : decide ((some ((z - 1 : Nat) : Int)).getD (z : Int) ≤ (z : Int)) = true := dt (by show ((z - 1 : Nat) : Int) ≤ (z : Int); omega)
    rw [d1, d2]
    refine ⟨rfl, ?_⟩
    have hsub : p_sub (kt z (X / 2 ^ (24 - z)) (Y / 2 ^ (24 - z))) 0 (z - 1) = kt (z - 1) (X / 2 ^ (24 - (z - 1))) (Y / 2 ^ (24 - (z - 1))) := by
      unfold kt
      rw [sub_bytes, take_kl hz (by omega)]
    show (p_sub (kt z (X / 2 ^ (24 - z)) (Y / 2 ^ (24 - z))) 0 (z - 1), true) = _
    rw [hsub]

/-! ### the law -/
theorem b10Place_ok {l : List Int} (hb : By l) : r_spec_B10Place R l = true ∧ ∃ a b : Nat, a < 49 ∧ b < 128 ∧ Stp (p_spec_B10Place R l).1 (((a : Int) - 24) * 131072) ∧ Stp (p_spec_B10Place R l).2 (((b : Int) - 64) * 131072) := by
  have h : At l 0 (p_spec_l00From R l) := ⟨rfl, Int.le_refl _, Int.le_refl _⟩
  have a0 := pick_ok hb h (by omega) 49
  have a1 := pick_ok hb a0.2.2 (by omega) 128
  have b0 := a0.2.1
  have b1 := a1.2.1
  have b0' := b0.2 (by omega)
  have b1' := b1.2 (by omega)
  unfold r_spec_B10Place p_spec_B10Place c1_spec_B10Place c0_spec_B10Place
  rw [a0.1, a1.1]
  refine ⟨rfl, ?_⟩
  generalize (p_spec_l00Src_pick R (p_spec_l00From R l).1 (p_spec_l00From R l).2.1 (p_spec_l00From R l).2.2 49) = q0 at *
  generalize (p_spec_l00Src_pick R q0.2.1 q0.2.2.1 q0.2.2.2 128) = q1 at *
  have w0 : IntKind.i64.wrap (q0.1 - 24) = q0.1 - 24 := wrap_small (by omega) (by omega)
  have w1 : IntKind.i64.wrap (q1.1 - 64) = q1.1 - 64 := wrap_small (by omega) (by omega)
  refine ⟨q0.1.toNat, q1.1.toNat, by omega, by omega, ?_, ?_⟩
  · have e : ((q0.1.toNat : Nat) : Int) = q0.1 := by omega
    rw [e]
    simp only
    rw [w0]
    exact st_128 (by omega)
  · have e : ((q1.1.toNat : Nat) : Int) = q1.1 := by omega
    rw [e]
    simp only
    rw [w1]
    exact st_128 (by omega)

theorem low_false {w v : Nat} {n m : Int} (h : Stp w n) (h' : Stp v m) (hnm : m ≤ n) : R.cmp .lss .f32 w v = false := by
  rw [lss_nm h.1 h'.1]
  have := st_le h' h hnm
  exact df (fun hc => by grind)
theorem high_false {w v : Nat} {n m : Int} (h : Stp w n) (h' : Stp v m) (hnm : n ≤ m) (h1 : m.natAbs ≤ 16777216) : R.cmp .gtr .f64 (R.wid w) (R.bin .add .f64 (R.wid v) 4517329193108106637) = false := by
  obtain ⟨w1, w2⟩ := wid_nm h.1
  obtain ⟨v1, v2⟩ := wid_nm h'.1
  have eps : Nm .f64 4517329193108106637 ∧ 0 ≤ fv .f64 4517329193108106637 ∧ fv .f64 4517329193108106637 ≤ p2 1 := ⟨⟨_, _, _, rfl⟩, by decide +kernel, by decide +kernel⟩
  have hb : fv .f64 (R.wid v) ≤ p2 1 ∧ -(fv .f64 (R.wid v)) ≤ p2 1 := by
    rw [v2, h'.2]
    have e1 : p2 1 = ((33554432 : Int) : Rat) * p2 (-24) := by decide +kernel
    rw [e1]
    constructor
    · exact Rat.mul_le_mul_of_nonneg_right (Rat.intCast_le_intCast.2 (by omega)) (p2_nonneg _)
    · rw [← Rat.neg_mul, ← Rat.intCast_neg]
      exact Rat.mul_le_mul_of_nonneg_right (Rat.intCast_le_intCast.2 (by omega)) (p2_nonneg _)
  have hs : Bk .f64 (R.bin .add .f64 (R.wid v) 4517329193108106637) 2 := bk_add (k := .f64) (E := 1) ⟨v1, hb.1, hb.2⟩ ⟨eps.1, eps.2.2, by have := eps.2.1; have := p2_nonneg 1; grind⟩ (by decide) (by decide)
  have hge := (rc_add v1 eps.1).ge (R.wid v) v1 hs.1 (by have := eps.2.1; grind)
  have hle := st_le h h' hnm
  rw [gtr_nm w1 hs.1]
  exact df (fun hc => by rw [w2] at hc; rw [v2] at hge; grind)

theorem law_Keys (c m : List Int) (hc : By c) (hm : By m) : r_laws_FnKeys R c m = true ∧ p_laws_FnKeys R c m = true := by
  cases h0 : p_laws_b10Long R c m
  · obtain ⟨p1, a, b, ha, hb, p2', p3⟩ := b10Place_ok hc
    obtain ⟨t1, z, t2, t3⟩ := at_ok hm 0 21 (by omega) (by omega) (by omega)
    obtain ⟨t4, z1, t5, t6⟩ := at_ok hm 1 21 (by omega) (by omega) (by omega)
    obtain ⟨t7, z2, t8, t9⟩ := at_ok hm 2 7 (by omega) (by omega) (by omega)
    have t1 : r_laws_b10At R m 0 21 = true := t1
    have t4 : r_laws_b10At R m 1 21 = true := t4
    have t7 : r_laws_b10At R m 2 7 = true := t7
    have t3 : p_laws_b10At R m 0 21 = (z : Int) := t3
    have t6 : p_laws_b10At R m 1 21 = (z1 : Int) := t6
    have t9 : p_laws_b10At R m 2 7 = (z2 : Int) := t9
    have hz : z ≤ 20 := by omega
    generalize hP : p_spec_B10Place R c = P at *
    -- where the place lies
    obtain ⟨X, hX⟩ : ∃ X, (((b : Int) - 64) * 131072 + 8388608).toNat = X := ⟨_, rfl⟩
    obtain ⟨Y, hY⟩ : ∃ Y, (2 * (((a : Int) - 24) * 131072) + 8388608).toNat = Y := ⟨_, rfl⟩
    have hXl : X < 16777216 := by omega
    have hYl : Y < 16777216 := by omega
    obtain ⟨k1, k2⟩ := keyOf_st p2' p3 (by omega) (by omega) (by omega) (by omega) z hz
    rw [hX, hY] at k1
    obtain ⟨m1, m2, hh, m3⟩ := size_mul hz
    have hS0 : 0 < 2 ^ (24 - z) := by omega
    have hx : X / 2 ^ (24 - z) < 2 ^ z := Nat.div_lt_of_lt_mul (by rw [Nat.mul_comm (2 ^ (24 - z)), m1]; omega)
    have hy : Y / 2 ^ (24 - z) < 2 ^ z := Nat.div_lt_of_lt_mul (by rw [Nat.mul_comm (2 ^ (24 - z)), m1]; omega)
    have e0 : c0_laws_FnKeys R c m = P := hP
    have e1 : c1_laws_FnKeys R c m = (z : Int) := t3
    have e2 : c2_laws_FnKeys R c m = (kt z (X / 2 ^ (24 - z)) (Y / 2 ^ (24 - z)), true) := by unfold c2_laws_FnKeys; rw [e0, e1]; exact k1
    obtain ⟨i1, i2, _, _⟩ := isKey_kt z (X / 2 ^ (24 - z)) (Y / 2 ^ (24 - z)) hz
    obtain ⟨g1, g2, _, _⟩ := keyTile_eq z _ _ hz hx hy
    have hs := kt_size z (X / 2 ^ (24 - z)) (Y / 2 ^ (24 - z))
    -- the tile's key
    have q3 : p_impl_KeyTile R (kt z (X / 2 ^ (24 - z)) (Y / 2 ^ (24 - z))) = (((X / 2 ^ (24 - z) : Nat) : Int), ((Y / 2 ^ (24 - z) : Nat) : Int), true) := by
      have e : c0_impl_KeyTile R (kt z (X / 2 ^ (24 - z)) (Y / 2 ^ (24 - z))) = (((X / 2 ^ (24 - z) : Nat) : Int), ((Y / 2 ^ (24 - z) : Nat) : Int)) := g1
      unfold p_impl_KeyTile; rw [i1, e]; rfl
    have q4 : r_impl_KeyTile R (kt z (X / 2 ^ (24 - z)) (Y / 2 ^ (24 - z))) = true := by unfold r_impl_KeyTile; rw [i1, i2, g2]; rfl
    obtain ⟨q5, q6⟩ := TileKey_eq hz (y := ((Y / 2 ^ (24 - z) : Nat) : Int)) hx
    rw [if_pos ⟨Int.natCast_nonneg _, Int.ofNat_lt.2 hy⟩] at q5
    have q5 : p_impl_TileKey R (z : Int) ((X / 2 ^ (24 - z) : Nat) : Int) ((Y / 2 ^ (24 - z) : Nat) : Int) = (kt z (X / 2 ^ (24 - z)) (Y / 2 ^ (24 - z)), true) := q5
    obtain ⟨A, B, C, D, b1, b2, b3, b4, b5, b6⟩ := box_st hz hx hy
    obtain ⟨n1, n2⟩ := parent_eq hz X Y
    have be : ∀ ea no : Int, -100 ≤ ea → ea ≤ 100 → -100 ≤ no → no ≤ 100 → _ := fun ea no h1 h2 h3 h4 => beside_eq hz hx hy (ea := ea) (no := no) h1 h2 h3 h4
    have wz1 : IntKind.i64.wrap ((z1 : Int) - 10) = (z1 : Int) - 10 := wrap_small (by omega) (by omega)
    have wz2 : IntKind.i64.wrap ((z2 : Int) - 3) = (z2 : Int) - 3 := wrap_small (by omega) (by omega)
    have wz3 : IntKind.i64.wrap (0 - ((z1 : Int) - 10)) = -((z1 : Int) - 10) := by rw [wrap_small (by omega) (by omega)]; omega
    have wz4 : IntKind.i64.wrap (0 - ((z2 : Int) - 3)) = -((z2 : Int) - 3) := by rw [wrap_small (by omega) (by omega)]; omega
    obtain ⟨v1, v2, v3, v4⟩ := be ((z1 : Int) - 10) ((z2 : Int) - 3) (by omega) (by omega) (by omega) (by omega)
    -- corners
    have dx := Nat.div_add_mod X (2 ^ (24 - z))
    have dy := Nat.div_add_mod Y (2 ^ (24 - z))
    have lx := Nat.mod_lt X hS0
    have ly := Nat.mod_lt Y hS0
    have tx := Nat.mul_le_mul_right (2 ^ (24 - z)) (show X / 2 ^ (24 - z) + 1 ≤ 2 ^ z from hx)
    have ty := Nat.mul_le_mul_right (2 ^ (24 - z)) (show Y / 2 ^ (24 - z) + 1 ≤ 2 ^ z from hy)
    rw [Nat.add_mul, Nat.one_mul, m1] at tx ty
    rw [Nat.mul_comm] at dx dy
    generalize hx0 : X / 2 ^ (24 - z) = x at *
    generalize hy0 : Y / 2 ^ (24 - z) = y at *
    generalize X % 2 ^ (24 - z) = rx at *
    generalize Y % 2 ^ (24 - z) = ry at *
    have ye : ∃ hv, y * 2 ^ (24 - z) = 2 * hv := ⟨y * hh, by rw [m3]; grind⟩
    obtain ⟨hv, hv1⟩ := ye
    have c1 := keyOf_st b3 b4 (by omega) (by omega) (by omega) (by omega) z hz
    have c2 := keyOf_st b5 b6 (by omega) (by omega) (by omega) (by omega) z hz
    have dX : ((x * 2 ^ (24 - z) : Nat) - 8388608 + 8388608 : Int).toNat / 2 ^ (24 - z) = x := by
      have : ((x * 2 ^ (24 - z) : Nat) - 8388608 + 8388608 : Int).toNat = x * 2 ^ (24 - z) := by omega
      rw [this]; exact Nat.mul_div_cancel _ hS0
    have dY : (2 * ((y * 2 ^ (24 - z) / 2 : Nat) - 4194304 : Int) + 8388608).toNat / 2 ^ (24 - z) = y := by
      have : (2 * ((y * 2 ^ (24 - z) / 2 : Nat) - 4194304 : Int) + 8388608).toNat = y * 2 ^ (24 - z) := by omega
      rw [this]; exact Nat.mul_div_cancel _ hS0
    have dX2 : ((x * 2 ^ (24 - z) + 2 ^ (24 - z) - 1 : Nat) - 8388608 + 8388608 : Int).toNat / 2 ^ (24 - z) = x := by
      have : ((x * 2 ^ (24 - z) + 2 ^ (24 - z) - 1 : Nat) - 8388608 + 8388608 : Int).toNat = 2 ^ (24 - z) * x + (2 ^ (24 - z) - 1) := by
        rw [Nat.mul_comm (2 ^ (24 - z)) x]; omega
      rw [this, Nat.mul_add_div hS0, Nat.div_eq_of_lt (by omega)]; rfl
    have dY2 : (2 * (((y * 2 ^ (24 - z) + 2 ^ (24 - z) - 1) / 2 : Nat) - 4194304 : Int) + 8388608).toNat / 2 ^ (24 - z) = y := by
      have : (2 * (((y * 2 ^ (24 - z) + 2 ^ (24 - z) - 1) / 2 : Nat) - 4194304 : Int) + 8388608).toNat = 2 ^ (24 - z) * y + (2 ^ (24 - z) - 2) := by
        rw [Nat.mul_comm (2 ^ (24 - z)) y]; omega
      rw [this, Nat.mul_add_div hS0, Nat.div_eq_of_lt (by omega)]; rfl
    rw [dX, dY] at c1
    rw [dX2, dY2] at c2
    have l1 : R.cmp .lss .f32 P.1 A = false := low_false p2' b3 (by omega)
    have l2 : R.cmp .lss .f32 P.2 B = false := low_false p3 b4 (by omega)
    have l3 : R.cmp .gtr .f64 (R.wid P.1) (R.bin .add .f64 (R.wid C) 4517329193108106637) = false := high_false p2' b5 (by omega) (by omega)
    have l4 : R.cmp .gtr .f64 (R.wid P.2) (R.bin .add .f64 (R.wid D) 4517329193108106637) = false := high_false p3 b6 (by omega) (by omega)
    have e3 : c3_laws_FnKeys R c m = ((x : Int), (y : Int), true) := by unfold c3_laws_FnKeys; rw [e2]; exact q3
    have e4 : c4_laws_FnKeys R c m = (kt z x y, true) := by unfold c4_laws_FnKeys; rw [e1, e3]; exact q5
    have e5 : c5_laws_FnKeys R c m = (A, B, C, D, true) := by unfold c5_laws_FnKeys; rw [e2]; exact b1
    have e6 : c6_laws_FnKeys R c m = (kt z x y, true) := by unfold c6_laws_FnKeys; rw [e5, e1]; exact c1.1
    have e7 : c7_laws_FnKeys R c m = (kt z x y, true) := by unfold c7_laws_FnKeys; rw [e5, e1]; exact c2.1
    have e8 : c8_laws_FnKeys R c m = p_impl_KeyBeside R (kt z x y) ((z1 : Int) - 10) ((z2 : Int) - 3) := by unfold c8_laws_FnKeys; rw [e2, t6, t9, wz1, wz2]
    have e9 : c9_laws_FnKeys R c m = p_impl_KeyBeside R (p_impl_KeyBeside R (kt z x y) ((z1 : Int) - 10) ((z2 : Int) - 3)).1 (-((z1 : Int) - 10)) (-((z2 : Int) - 3)) := by unfold c9_laws_FnKeys; rw [e8, t6, t9, wz1, wz2, wz3, wz4]
    have e10 : c10_laws_FnKeys R c m = p_impl_KeyParent R (kt z x y) := by unfold c10_laws_FnKeys; rw [e2]
    have hsz : ((((kt z x y).size : Int)) != (z : Int)) = false := by rw [hs]; simp
    have tlb : ((kt z x y).toList == (kt z x y).toList) = true := toList_beq _
    -- the end
    have fin : (bif (z : Int) == 0 then !(c10_laws_FnKeys R c m).snd else (bif (c10_laws_FnKeys R c m).snd then (bif (c11_laws_FnKeys R c m).snd then (c10_laws_FnKeys R c m).fst.toList == (c11_laws_FnKeys R c m).fst.toList else false) else false)) = true ∧
        (bif (z : Int) == 0 then true else ((r_impl_KeyOf R (c0_laws_FnKeys R c m).fst (c0_laws_FnKeys R c m).snd (IntKind.i64.wrap ((c1_laws_FnKeys R c m) - 1))) && true)) = true := by
      rw [e10, n2]
      by_cases hz0 : z = 0
      · subst hz0
        rw [if_pos rfl]; exact ⟨rfl, rfl⟩
      · have hb0 : ((z : Int) == 0) = false := by
          have : ¬ (z : Int) = 0 := by omega
          simpa using this
        have ew : IntKind.i64.wrap ((z : Int) - 1) = ((z - 1 : Nat) : Int) := by rw [wrap_small (by omega) (by omega)]; omega
        obtain ⟨w1, w2⟩ := keyOf_st p2' p3 (by omega) (by omega) (by omega) (by omega) (z - 1) (by omega)
        rw [hX, hY] at w1
        have e11 : c11_laws_FnKeys R c m = (kt (z - 1) (X / 2 ^ (24 - (z - 1))) (Y / 2 ^ (24 - (z - 1))), true) := by unfold c11_laws_FnKeys; rw [e0, e1, ew]; exact w1
        rw [if_neg hz0, hb0, e11, e0, e1, ew, w2]
        simp only [cond_false, cond_true, toList_beq, Bool.and_true]
        exact ⟨trivial, trivial⟩
    obtain ⟨fin1, fin2⟩ := fin
    unfold r_laws_FnKeys p_laws_FnKeys
    rw [h0, e0, e1] at *
    rw [e2, e3, e4, e5, e6, e7, t6, t9, wz1, wz2, wz3, wz4, p1, t1, t4, t7, k2]
    simp only
    rw [i1, i2, q4, q6, b2, hsz, tlb, l1, l2, l3, l4, c1.2, c2.2, v2, v3, v4, n1, fin1, fin2, e8]
    by_cases hb' : 0 ≤ (y : Int) + ((z2 : Int) - 3) ∧ (y : Int) + ((z2 : Int) - 3) < ((2 ^ z : Nat) : Int)
    · rw [if_pos hb'] at v1
      have hm0 := Int.emod_nonneg ((x : Int) + ((z1 : Int) - 10)) (show ((2 ^ z : Nat) : Int) ≠ 0 by omega)
      have hm1 := Int.emod_lt_of_pos ((x : Int) + ((z1 : Int) - 10)) (show 0 < ((2 ^ z : Nat) : Int) by omega)
      obtain ⟨u1, u2, u3, u4⟩ := beside_eq hz (x := (((x : Int) + ((z1 : Int) - 10)) % ((2 ^ z : Nat) : Int)).toNat) (y := ((y : Int) + ((z2 : Int) - 3)).toNat) (by omega) (by omega) (ea := -((z1 : Int) - 10)) (no := -((z2 : Int) - 3)) (by omega) (by omega) (by omega) (by omega)
      have ex : (((((x : Int) + ((z1 : Int) - 10)) % ((2 ^ z : Nat) : Int)).toNat : Nat) : Int) = ((x : Int) + ((z1 : Int) - 10)) % ((2 ^ z : Nat) : Int) := by omega
      have ey : ((((y : Int) + ((z2 : Int) - 3)).toNat : Nat) : Int) + -((z2 : Int) - 3) = (y : Int) := by omega
      rw [ex, ey, back_mod _ _ (by omega) (by omega), if_pos ⟨by omega, by omega⟩] at u1
      have u1 : p_impl_KeyBeside R (kt z (((x : Int) + ((z1 : Int) - 10)) % ((2 ^ z : Nat) : Int)).toNat ((y : Int) + ((z2 : Int) - 3)).toNat) (-((z1 : Int) - 10)) (-((z2 : Int) - 3)) = (kt z x y, true) := u1
      rw [e9, v1]
      simp only
      rw [u1, u2, dt hb', tlb]
      exact ⟨rfl, rfl⟩
    · rw [if_neg hb'] at v1
      rw [v1, df hb']
      exact ⟨rfl, rfl⟩
  · unfold r_laws_FnKeys p_laws_FnKeys
    rw [h0]; exact ⟨rfl, rfl⟩
end Go.Dv
