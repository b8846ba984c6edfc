/- Keys of tiles: what is written is read back, and the keys of places. -/
import Derived.Test.YtgfplcpjnlignaaDoorLlf
import Derived.Test.YtgfplcpjnlignaaDoorLra
import Derived.Test.YtgfplcpjnlignaaDoorWll

set_option linter.unusedSimpArgs false
set_option linter.unusedVariables false
namespace Go.Dv
open Go.Cv

theorem band1 (a : Nat) (h : a < 9223372036854775808) : bits .and .i64 (a : Int) 1 = ((a % 2 : Nat) : Int) := by
  have h1 : (BitVec.ofInt 64 (a : Int)).toNat = a := by
    rw [BitVec.ofInt_natCast, BitVec.toNat_ofNat]; exact Nat.mod_eq_of_lt (by omega)
  have h2 : (BitVec.ofInt 64 (1 : Int)).toNat = 1 := by decide
  show IntKind.i64.wrap ((BitVec.ofInt 64 (a : Int) &&& BitVec.ofInt 64 (1 : Int)).toNat : Int) = _
  rw [BitVec.toNat_and, h1, h2, Nat.and_one_is_mod]
  have : a % 2 < 2 := Nat.mod_lt _ (by omega)
  exact wrap_small (by omega) (by omega)
theorem p2i (m : Nat) : (2 : Int) ^ m = ((2 ^ m : Nat) : Int) := by rw [Int.natCast_pow]; rfl
theorem pow20 {z : Nat} (h : z ≤ 24) : 2 ^ z ≤ 16777216 := Nat.pow_le_pow_right (n := 2) (by decide) h
theorem many {z : Nat} (h : z ≤ 24) : IntKind.i64.wrap (1 * 2 ^ z) = ((2 ^ z : Nat) : Int) := by
  have := pow20 h
  rw [Int.one_mul, p2i]
  generalize 2 ^ z = Z at *
  exact wrap_small (by omega) (by omega)
theorem blt_of {a b : Nat} (h : a < b) : Nat.blt a b = true := by rw [Nat.blt_eq]; exact h
theorem u8w {i : Int} (h0 : 0 ≤ i) (h1 : i < 256) : IntKind.u8.wrap i = i := by
  unfold IntKind.wrap
  have e1 : (IntKind.u8.bits) = 8 := rfl
  simp [IntKind.signed, e1]
  omega

def dgt (x y m : Nat) : Nat := 48 + 2 * (y / 2 ^ m % 2) + x / 2 ^ m % 2
theorem dgt_in (x y m : Nat) : 48 ≤ dgt x y m ∧ dgt x y m ≤ 51 := by
  have h1 : y / 2 ^ m % 2 < 2 := Nat.mod_lt _ (by decide)
  have h2 : x / 2 ^ m % 2 < 2 := Nat.mod_lt _ (by decide)
  unfold dgt; omega
def kl (z x y : Nat) : List Int := (List.range z).map fun k => ((dgt x y (z - 1 - k) : Nat) : Int)
def kt (z x y : Nat) : ByteArray := p_bytes (kl z x y)
theorem kl_len (z x y : Nat) : (kl z x y).length = z := by simp [kl]
theorem kl_get {z x y i : Nat} (h : i < z) : (kl z x y)[i]'(by rw [kl_len]; exact h) = ((dgt x y (z - 1 - i) : Nat) : Int) := by simp [kl]
theorem kt_size (z x y : Nat) : (kt z x y).size = z := by unfold kt; rw [p_bytes_size, kl_len]
theorem kt_at {z x y i : Nat} (h : i < z) : p_byteAt (kt z x y) (i : Int) = ((dgt x y (z - 1 - i) : Nat) : Int) := by
  have hd := dgt_in x y (z - 1 - i)
  have h1 : (kt z x y).data.getD i 0 = UInt8.ofNat (dgt x y (z - 1 - i)) := by
    unfold kt p_bytes kl
    simp [Array.getD, h]
  show (((kt z x y).data.getD i 0).toNat : Int) = _
  rw [h1, UInt8.toNat_ofNat']
  omega

/-! ### keys are written -/
theorem set_step (L : List Int) (i : Nat) (hi : i < L.length) (v : Int) (hv : L[i] = v) : (L.take i ++ List.replicate (L.length - i) 0).set i v = L.take (i + 1) ++ List.replicate (L.length - (i + 1)) 0 := by
  have e : L.length - i = (L.length - (i + 1)) + 1 := by omega
  have hl : (L.take i).length = i := by simp; omega
  rw [e, List.replicate_succ, List.take_succ_eq_append_getElem hi, hv, List.append_assoc, List.singleton_append, List.set_append_right _ _ (by omega), hl, Nat.sub_self, List.set_cons_zero]
theorem key_run (z x y : Nat) (hz : z ≤ 20) (hx : x < 16777216) (hy : y < 16777216) : c0_impl_tileKey R (z : Int) (x : Int) (y : Int) = some (kl z x y, ByteArray.mk #[], ()) := by
  have hl := kl_len z x y
  have h0 : c0_impl_tileKey R (z : Int) (x : Int) (y : Int) = W_impl_tileKey_0 R ((z : Int), (x : Int), (y : Int), (kl z x y).take 0 ++ List.replicate ((kl z x y).length - 0) 0, (z : Int), ((0 : Nat) : Int), ByteArray.mk #[], ()) := by
    unfold c0_impl_tileKey
    have e1 : ((List.replicate (z : Int).toNat (0 : Int)).length : Int) = (z : Int) := by rw [List.length_replicate]; rfl
    rw [e1, List.take_zero, List.nil_append, hl]
    rfl
  rw [h0]
  refine runW_count (step := fun x => st_impl_tileKey_0 R x.1 x.2.1 x.2.2.1 x.2.2.2.1 x.2.2.2.2.1 x.2.2.2.2.2.1 x.2.2.2.2.2.2.1) (n := z)
    (mk := fun i => ((z : Int), (x : Int), (y : Int), (kl z x y).take i ++ List.replicate ((kl z x y).length - i) 0, (z : Int), (i : Int), ByteArray.mk #[], ())) (o := (kl z x y, ByteArray.mk #[], ())) (fun i hi => ?_) ?_
  · simp only [st_impl_tileKey_0]
    have em : IntKind.i64.wrap (IntKind.i64.wrap ((z : Int) - 1) - (i : Int)) = ((z - 1 - i : Nat) : Int) := by
      rw [wrap_small (i := (z : Int) - 1) (by omega) (by omega), wrap_small (by omega) (by omega)]; omega
    have b1 : y / 2 ^ (z - 1 - i) % 2 < 2 := Nat.mod_lt _ (by decide)
    have b2 : x / 2 ^ (z - 1 - i) % 2 < 2 := Nat.mod_lt _ (by decide)
    have q1 : bits .and .i64 ((y : Int) / 2 ^ (((z - 1 - i : Nat) : Int)).toNat) 1 = ((y / 2 ^ (z - 1 - i) % 2 : Nat) : Int) := by
      show bits .and .i64 ((y : Int) / 2 ^ (z - 1 - i)) 1 = _
      rw [p2i, ← Int.natCast_ediv, band1 _ (by have := Nat.div_le_self y (2 ^ (z - 1 - i)); omega)]
    have q2 : bits .and .i64 ((x : Int) / 2 ^ (((z - 1 - i : Nat) : Int)).toNat) 1 = ((x / 2 ^ (z - 1 - i) % 2 : Nat) : Int) := by
      show bits .and .i64 ((x : Int) / 2 ^ (z - 1 - i)) 1 = _
      rw [p2i, ← Int.natCast_ediv, band1 _ (by have := Nat.div_le_self x (2 ^ (z - 1 - i)); omega)]
    have q3 : IntKind.u8.wrap (IntKind.i64.wrap (IntKind.i64.wrap (48 + IntKind.i64.wrap (2 * ((y / 2 ^ (z - 1 - i) % 2 : Nat) : Int))) + ((x / 2 ^ (z - 1 - i) % 2 : Nat) : Int))) = ((dgt x y (z - 1 - i) : Nat) : Int) := by
      rw [wrap_small (i := 2 * ((y / 2 ^ (z - 1 - i) % 2 : Nat) : Int)) (by omega) (by omega), wrap_small (i := 48 + 2 * ((y / 2 ^ (z - 1 - i) % 2 : Nat) : Int)) (by omega) (by omega), wrap_small (by omega) (by omega), u8w (by omega) (by omega)]
      unfold dgt; omega
    have hlen : ((kl z x y).take i ++ List.replicate ((kl z x y).length - i) 0).length = z := by simp [hl]; omega
    have hs := set_step (kl z x y) i (by rw [hl]; exact hi) _ (kl_get hi)
    rw [em, q1, q2, q3, wrap_succ (by omega), show ((i : Int)).toNat = i from rfl, hs, hlen]
    have hlen2 : ((kl z x y).take (i + 1) ++ List.replicate ((kl z x y).length - (i + 1)) 0).length = z := by simp [hl]; omega
    rw [hlen2, dt (show (i : Int) < (z : Int) by omega), dt (show 0 ≤ ((z - 1 - i : Nat) : Int) by omega), dt (show ((z - 1 - i : Nat) : Int) ≤ Int.ofNat 64 by show ((z - 1 - i : Nat) : Int) ≤ (64 : Int); omega), dt (show 0 ≤ (i : Int) by omega), blt_of (show i < z from hi), Nat.beq_refl]
    rfl
  · simp only [st_impl_tileKey_0]
    rw [df (show ¬ (z : Int) < (z : Int) by omega), hl, Nat.sub_self, List.replicate_zero, List.append_nil]
    have ht : (kl z x y).take z = kl z x y := List.take_of_length_le (by omega)
    rw [ht, Nat.beq_refl]; rfl
theorem tileKey_eq (z x y : Nat) (hz : z ≤ 20) (hx : x < 16777216) (hy : y < 16777216) : p_impl_tileKey R (z : Int) (x : Int) (y : Int) = kt z x y ∧ r_impl_tileKey R (z : Int) (x : Int) (y : Int) = true := by
  unfold p_impl_tileKey r_impl_tileKey
  rw [key_run z x y hz hx hy, Nat.beq_refl, dt (show 0 ≤ (z : Int) by omega), dt (show (z : Int) ≤ (z : Int) by omega), dt (show (z : Int) ≤ Int.ofNat 1073741824 by show (z : Int) ≤ (1073741824 : Int); omega)]
  exact ⟨rfl, rfl⟩
theorem l07_run (x y : Int) : ∀ (j : Nat) (x y : Int) (l : List Int), j ≤ l.length → j ≤ 1000000 → ∃ out, W_spec_l07Key_0 R (x, y, l, (j : Int) - 1, ByteArray.mk #[], ()) = some (out, ByteArray.mk #[], ()) := by
  intro j
  induction j with
  | zero =>
    intro x y l _ _
    refine ⟨l, runW_out ?_⟩
    show st_spec_l07Key_0 R x y l (((0 : Nat) : Int) - 1) (ByteArray.mk #[]) = _
    unfold st_spec_l07Key_0
    have e : decide ((((0 : Nat) : Int) - 1) ≥ 0) = false := by decide
    rw [e, Nat.beq_refl]; rfl
  | succ j ih =>
    intro x y l hl hj
    have ej : ((j + 1 : Nat) : Int) - 1 = (j : Int) := by omega
    have step : ∃ v x' y', st_spec_l07Key_0 R x y l (((j + 1 : Nat) : Int) - 1) (ByteArray.mk #[]) = some (.inl (x', y', l.set j v, (j : Int) - 1, ByteArray.mk #[], ())) := by
      refine ⟨IntKind.u8.wrap (IntKind.i64.wrap (IntKind.i64.wrap (48 + IntKind.i64.wrap (2 * y.tmod 2)) + x.tmod 2)), IntKind.i64.wrap (x.tdiv 2), IntKind.i64.wrap (y.tdiv 2), ?_⟩
      unfold st_spec_l07Key_0
      rw [ej, dt (show (j : Int) ≥ 0 by omega), dt (show (j : Int) < (l.length : Int) by omega), show ((j : Int)).toNat = j from rfl, blt_of (show j < l.length from hl), List.length_set, Nat.beq_refl, wrap_small (i := (j : Int) - 1) (by omega) (by omega)]
      rfl
    obtain ⟨v, x', y', hst⟩ := step
    obtain ⟨out, ho⟩ := ih x' y' (l.set j v) (by rw [List.length_set]; omega) (by omega)
    exact ⟨out, (runW_on (step := fun x => st_spec_l07Key_0 R x.1 x.2.1 x.2.2.1 x.2.2.2.1 x.2.2.2.2.1) hst).trans ho⟩
theorem l07Key_ok (z : Nat) (hz : z ≤ 20) (x y : Int) : r_spec_l07Key R (z : Int) x y = true := by
  obtain ⟨out, h⟩ := l07_run x y z x y (List.replicate z 0) (by simp) (by omega)
  have e1 : IntKind.i64.wrap ((z : Int) - 1) = (z : Int) - 1 := wrap_small (by omega) (by omega)
  have hc : c0_spec_l07Key R (z : Int) x y = some (out, ByteArray.mk #[], ()) := by unfold c0_spec_l07Key; rw [e1]; exact h
  unfold r_spec_l07Key
  rw [hc, Nat.beq_refl, dt (show 0 ≤ (z : Int) by omega), dt (show (z : Int) ≤ (z : Int) by omega), dt (show (z : Int) ≤ Int.ofNat 1073741824 by show (z : Int) ≤ (1073741824 : Int); omega)]
  rfl

/-! ### keys are read -/
theorem half_step (x m : Nat) : x / 2 ^ m = 2 * (x / 2 ^ (m + 1)) + x / 2 ^ m % 2 := by
  have : x / 2 ^ (m + 1) = x / 2 ^ m / 2 := by rw [Nat.pow_succ, Nat.div_div_eq_div_mul]
  rw [this]; omega
theorem digit_in {z x y i : Nat} (h : i < z) : IntKind.i64.wrap (IntKind.u8.wrap (p_byteAt (kt z x y) (i : Int) - 48)) = ((2 * (y / 2 ^ (z - 1 - i) % 2) + x / 2 ^ (z - 1 - i) % 2 : Nat) : Int) := by
  have b1 : y / 2 ^ (z - 1 - i) % 2 < 2 := Nat.mod_lt _ (by decide)
  have b2 : x / 2 ^ (z - 1 - i) % 2 < 2 := Nat.mod_lt _ (by decide)
  rw [kt_at h]
  unfold dgt
  rw [u8w (by omega) (by omega), wrap_small (by omega) (by omega)]
  omega
theorem read_run (z x y : Nat) (hz : z ≤ 20) (hx : x < 2 ^ z) (hy : y < 2 ^ z) : c0_impl_keyTile R (kt z x y) = some ((x : Int), (y : Int), 0, 0, ()) ∧ c0_spec_l07Read R (kt z x y) = some ((x : Int), (y : Int), 0, 0, ()) := by
  have hp := pow20 (z := z) (by omega)
  have x0 : x / 2 ^ (z - 0) = 0 := Nat.div_eq_of_lt hx
  have y0 : y / 2 ^ (z - 0) = 0 := Nat.div_eq_of_lt hy
  have xz : x / 2 ^ (z - z) = x := by rw [Nat.sub_self, Nat.pow_zero, Nat.div_one]
  have yz : y / 2 ^ (z - z) = y := by rw [Nat.sub_self, Nat.pow_zero, Nat.div_one]
  have hs := kt_size z x y
  have key : ∀ i, i < z → ∀ w : Nat, w ≤ 16777216 → w / 2 ^ (z - (i + 1)) = 2 * (w / 2 ^ (z - i)) + w / 2 ^ (z - 1 - i) % 2 := fun i hi w _ => by
    have e1 : z - (i + 1) = z - 1 - i := by omega
    have e2 : z - i = z - 1 - i + 1 := by omega
    rw [e1, e2]; exact half_step w _
  constructor
  · have h0 : c0_impl_keyTile R (kt z x y) = W_impl_keyTile_0 R (kt z x y, ((x / 2 ^ (z - 0) : Nat) : Int), ((y / 2 ^ (z - 0) : Nat) : Int), (z : Int), ((0 : Nat) : Int), 0, 0, ()) := by
      unfold c0_impl_keyTile; rw [hs, x0, y0]; rfl
    rw [h0]
    refine runW_count (step := fun x => st_impl_keyTile_0 R x.1 x.2.1 x.2.2.1 x.2.2.2.1 x.2.2.2.2.1 x.2.2.2.2.2.1 x.2.2.2.2.2.2.1) (n := z)
      (mk := fun i => (kt z x y, ((x / 2 ^ (z - i) : Nat) : Int), ((y / 2 ^ (z - i) : Nat) : Int), (z : Int), (i : Int), 0, 0, ())) (o := ((x : Int), (y : Int), 0, 0, ())) (fun i hi => ?_) ?_
    · simp only [st_impl_keyTile_0]
      have b1 : y / 2 ^ (z - 1 - i) % 2 < 2 := Nat.mod_lt _ (by decide)
      have b2 : x / 2 ^ (z - 1 - i) % 2 < 2 := Nat.mod_lt _ (by decide)
      have c1 := Nat.div_le_self x (2 ^ (z - i))
      have c2 := Nat.div_le_self y (2 ^ (z - i))
      have k1 := key i hi x (by omega)
      have k2 := key i hi y (by omega)
      have d2 : ((2 * (y / 2 ^ (z - 1 - i) % 2) + x / 2 ^ (z - 1 - i) % 2 : Nat) : Int) / Int.ofNat 2 = ((y / 2 ^ (z - 1 - i) % 2 : Nat) : Int) := by
        show ((2 * (y / 2 ^ (z - 1 - i) % 2) + x / 2 ^ (z - 1 - i) % 2 : Nat) : Int) / (2 : Int) = _
        omega
      have d1 : bits .and .i64 ((2 * (y / 2 ^ (z - 1 - i) % 2) + x / 2 ^ (z - 1 - i) % 2 : Nat) : Int) 1 = ((x / 2 ^ (z - 1 - i) % 2 : Nat) : Int) := by
        rw [band1 _ (by omega)]; omega
      rw [digit_in hi, d1, d2, hs, wrap_succ (by omega), dt (show (i : Int) < (z : Int) by omega), dt (show 0 ≤ (i : Int) by omega)]
      rw [wrap_small (i := 2 * ((x / 2 ^ (z - i) : Nat) : Int)) (by omega) (by omega), wrap_small (i := 2 * ((x / 2 ^ (z - i) : Nat) : Int) + ((x / 2 ^ (z - 1 - i) % 2 : Nat) : Int)) (by omega) (by omega)]
      rw [wrap_small (i := 2 * ((y / 2 ^ (z - i) : Nat) : Int)) (by omega) (by omega), wrap_small (i := 2 * ((y / 2 ^ (z - i) : Nat) : Int) + ((y / 2 ^ (z - 1 - i) % 2 : Nat) : Int)) (by omega) (by omega)]
      have f1 : 2 * ((x / 2 ^ (z - i) : Nat) : Int) + ((x / 2 ^ (z - 1 - i) % 2 : Nat) : Int) = ((x / 2 ^ (z - (i + 1)) : Nat) : Int) := by omega
      have f2 : 2 * ((y / 2 ^ (z - i) : Nat) : Int) + ((y / 2 ^ (z - 1 - i) % 2 : Nat) : Int) = ((y / 2 ^ (z - (i + 1)) : Nat) : Int) := by omega
      rw [f1, f2]; rfl
    · simp only [st_impl_keyTile_0]
      rw [df (show ¬ (z : Int) < (z : Int) by omega), xz, yz]; rfl
  · have h0 : c0_spec_l07Read R (kt z x y) = W_spec_l07Read_0 R (kt z x y, ((x / 2 ^ (z - 0) : Nat) : Int), ((y / 2 ^ (z - 0) : Nat) : Int), ((0 : Nat) : Int), 0, 0, ()) := by
      unfold c0_spec_l07Read; rw [x0, y0]; rfl
    rw [h0]
    refine runW_count (step := fun x => st_spec_l07Read_0 R x.1 x.2.1 x.2.2.1 x.2.2.2.1 x.2.2.2.2.1 x.2.2.2.2.2.1) (n := z)
      (mk := fun i => (kt z x y, ((x / 2 ^ (z - i) : Nat) : Int), ((y / 2 ^ (z - i) : Nat) : Int), (i : Int), 0, 0, ())) (o := ((x : Int), (y : Int), 0, 0, ())) (fun i hi => ?_) ?_
    · simp only [st_spec_l07Read_0]
      have b1 : y / 2 ^ (z - 1 - i) % 2 < 2 := Nat.mod_lt _ (by decide)
      have b2 : x / 2 ^ (z - 1 - i) % 2 < 2 := Nat.mod_lt _ (by decide)
      have c1 := Nat.div_le_self x (2 ^ (z - i))
      have c2 := Nat.div_le_self y (2 ^ (z - i))
      have k1 := key i hi x (by omega)
      have k2 := key i hi y (by omega)
      have d2 : (((2 * (y / 2 ^ (z - 1 - i) % 2) + x / 2 ^ (z - 1 - i) % 2 : Nat) : Int)).tdiv 2 = ((y / 2 ^ (z - 1 - i) % 2 : Nat) : Int) := by
        rw [Int.tdiv_eq_ediv_of_nonneg (by omega)]; omega
      have d1 : (((2 * (y / 2 ^ (z - 1 - i) % 2) + x / 2 ^ (z - 1 - i) % 2 : Nat) : Int)).tmod 2 = ((x / 2 ^ (z - 1 - i) % 2 : Nat) : Int) := by
        rw [Int.tmod_eq_emod_of_nonneg (by omega)]; omega
      rw [digit_in hi, d1, d2, hs, wrap_succ (by omega), dt (show (i : Int) < (z : Int) by omega), dt (show 0 ≤ (i : Int) by omega)]
      rw [wrap_small (i := ((y / 2 ^ (z - 1 - i) % 2 : Nat) : Int)) (by omega) (by omega)]
      rw [wrap_small (i := 2 * ((x / 2 ^ (z - i) : Nat) : Int)) (by omega) (by omega), wrap_small (i := 2 * ((x / 2 ^ (z - i) : Nat) : Int) + ((x / 2 ^ (z - 1 - i) % 2 : Nat) : Int)) (by omega) (by omega)]
      rw [wrap_small (i := 2 * ((y / 2 ^ (z - i) : Nat) : Int)) (by omega) (by omega), wrap_small (i := 2 * ((y / 2 ^ (z - i) : Nat) : Int) + ((y / 2 ^ (z - 1 - i) % 2 : Nat) : Int)) (by omega) (by omega)]
      have f1 : 2 * ((x / 2 ^ (z - i) : Nat) : Int) + ((x / 2 ^ (z - 1 - i) % 2 : Nat) : Int) = ((x / 2 ^ (z - (i + 1)) : Nat) : Int) := by omega
      have f2 : 2 * ((y / 2 ^ (z - i) : Nat) : Int) + ((y / 2 ^ (z - 1 - i) % 2 : Nat) : Int) = ((y / 2 ^ (z - (i + 1)) : Nat) : Int) := by omega
      rw [f1, f2]; rfl
    · simp only [st_spec_l07Read_0]
      rw [hs, df (show ¬ (z : Int) < (z : Int) by omega), xz, yz]; rfl
theorem keyTile_eq (z x y : Nat) (hz : z ≤ 20) (hx : x < 2 ^ z) (hy : y < 2 ^ z) : p_impl_keyTile R (kt z x y) = ((x : Int), (y : Int)) ∧ r_impl_keyTile R (kt z x y) = true ∧ p_spec_l07Read R (kt z x y) = ((x : Int), (y : Int)) ∧ r_spec_l07Read R (kt z x y) = true := by
  obtain ⟨h1, h2⟩ := read_run z x y hz hx hy
  unfold p_impl_keyTile r_impl_keyTile p_spec_l07Read r_spec_l07Read
  rw [h1, h2]; exact ⟨rfl, rfl, rfl, rfl⟩

theorem isKey_kt (z x y : Nat) (hz : z ≤ 20) : p_impl_IsKey R (kt z x y) = true ∧ r_impl_IsKey R (kt z x y) = true ∧ p_spec_l07Is R (kt z x y) = true ∧ r_spec_l07Is R (kt z x y) = true := by
  have hs := kt_size z x y
  have hr : r_strings_Trim R (kt z x y) (ByteArray.mk #[48, 49, 50, 51]) = true := by
    unfold r_strings_Trim
    rw [dt (show (kt z x y).size ≤ 1073741824 by omega)]
    decide +kernel
  have hall : ((kt z x y).data.toList.all fun b => (ByteArray.mk #[48, 49, 50, 51]).data.toList.contains b) = true := by
    rw [List.all_eq_true]
    intro b hb
    unfold kt p_bytes kl at hb
    simp at hb
    obtain ⟨k, _, rfl⟩ := hb
    have hd := dgt_in x y (z - 1 - k)
    have : dgt x y (z - 1 - k) = 48 ∨ dgt x y (z - 1 - k) = 49 ∨ dgt x y (z - 1 - k) = 50 ∨ dgt x y (z - 1 - k) = 51 := by omega
    rcases this with h | h | h | h <;> rw [h] <;> decide
  have ht : ((p_strings_Trim R (kt z x y) (ByteArray.mk #[48, 49, 50, 51])).toList == (ByteArray.mk #[]).toList) = true := by
    have hl : (p_strings_Trim R (kt z x y) (ByteArray.mk #[48, 49, 50, 51])).toList = Lib.trimS (kt z x y).data.toList (ByteArray.mk #[48, 49, 50, 51]).data.toList := by
      rw [Lib.toList_data]; rfl
    have hn : (ByteArray.mk #[]).toList = [] := by rw [Lib.toList_data]
    rw [hl, hn, (trim_nil _ _).2 hall]; rfl
  have hrun : c0_spec_l07Is R (kt z x y) = some (.inr (kt z x y, false, ())) := by
    refine runW_count (step := fun x => st_spec_l07Is_0 R x.1 x.2.1 x.2.2.1) (n := z) (mk := fun i => (kt z x y, (i : Int), false, ())) (o := .inr (kt z x y, false, ())) (fun i hi => ?_) ?_
    · simp only [st_spec_l07Is_0]
      have hd := dgt_in x y (z - 1 - i)
      rw [hs, kt_at hi, wrap_succ (by omega), dt (show (i : Int) < (z : Int) by omega), dt (show 0 ≤ (i : Int) by omega), df (show ¬ ((dgt x y (z - 1 - i) : Nat) : Int) < 48 by omega), df (show ¬ ((dgt x y (z - 1 - i) : Nat) : Int) > 51 by omega)]
      rfl
    · simp only [st_spec_l07Is_0]
      rw [hs, df (show ¬ (z : Int) < (z : Int) by omega)]; rfl
  have hk : decide (((kt z x y).size : Int) ≤ 20) = true := dt (by rw [hs]; omega)
  refine ⟨?_, ?_, ?_, ?_⟩
  · unfold p_impl_IsKey; rw [hk, ht]; rfl
  · unfold r_impl_IsKey; rw [hk, hr]; rfl
  · unfold p_spec_l07Is; rw [hrun]; exact hk
  · unfold r_spec_l07Is; rw [hrun]; rfl

/-! ### the keys of places -/
theorem keyOf_st {A B : Nat} {n e : Int} (hA : Stp A n) (hB : Stp B e) (h1 : -4194304 ≤ n) (h2 : n < 4194304) (h3 : -8388608 ≤ e) (h4 : e < 8388608) (z : Nat) (hz : z ≤ 20) :
    p_impl_KeyOf R A B (z : Int) = (kt z ((e + 8388608).toNat / 2 ^ (24 - z)) ((2 * n + 8388608).toNat / 2 ^ (24 - z)), true) ∧ r_impl_KeyOf R A B (z : Int) = true := by
  obtain ⟨s1, s2⟩ := stepsOf_st hA hB h1 (by omega) h3 h4
  have hzm : p_impl_isZoom R (z : Int) = true := by
    unfold p_impl_isZoom p_impl_within
    rw [dt (show (0 : Int) ≤ (z : Int) by omega), dt (show (z : Int) ≤ 20 by omega)]; rfl
  have ew : IntKind.i64.wrap (24 - (z : Int)) = ((24 - z : Nat) : Int) := by rw [wrap_small (by omega) (by omega)]; omega
  have eX : IntKind.i64.wrap (e + 8388608) = (((e + 8388608).toNat : Nat) : Int) := by rw [wrap_small (by omega) (by omega)]; omega
  have eY : IntKind.i64.wrap (IntKind.i64.wrap (2 * n) + 8388608) = (((2 * n + 8388608).toNat : Nat) : Int) := by
    rw [wrap_small (i := 2 * n) (by omega) (by omega), wrap_small (by omega) (by omega)]; omega
  have ec : decide (16777215 < (((2 * n + 8388608).toNat : Nat) : Int)) = false := df (by omega)
  have c0 : c0_impl_tileOf R A B (z : Int) = (n, e, true) := s1
  have ht : p_impl_tileOf R A B (z : Int) = (((((e + 8388608).toNat / 2 ^ (24 - z) : Nat)) : Int), (((2 * n + 8388608).toNat / 2 ^ (24 - z) : Nat) : Int)) := by
    unfold p_impl_tileOf
    rw [c0, ew]
    simp only
    rw [eX, eY, ec]
    show (((((e + 8388608).toNat : Nat) : Int)) / 2 ^ (24 - z), ((((2 * n + 8388608).toNat : Nat) : Int)) / 2 ^ (24 - z)) = _
    rw [p2i, ← Int.natCast_ediv, ← Int.natCast_ediv]
  have hr : r_impl_tileOf R A B (z : Int) = true := by
    unfold r_impl_tileOf
    rw [s2, ew, dt (show 0 ≤ ((24 - z : Nat) : Int) by omega), dt (show ((24 - z : Nat) : Int) ≤ Int.ofNat 64 by show ((24 - z : Nat) : Int) ≤ (64 : Int); omega)]; rfl
  have d1 := Nat.div_le_self (e + 8388608).toNat (2 ^ (24 - z))
  have d2 := Nat.div_le_self (2 * n + 8388608).toNat (2 ^ (24 - z))
  obtain ⟨k1, k2⟩ := tileKey_eq z ((e + 8388608).toNat / 2 ^ (24 - z)) ((2 * n + 8388608).toNat / 2 ^ (24 - z)) hz (by omega) (by omega)
  have c1 : c0_impl_KeyOf R A B (z : Int) = (((((e + 8388608).toNat / 2 ^ (24 - z) : Nat)) : Int), (((2 * n + 8388608).toNat / 2 ^ (24 - z) : Nat) : Int)) := ht
  unfold p_impl_KeyOf r_impl_KeyOf
  rw [valid_st hA hB h1 (by omega) h3 h4, hzm, c1, hr, k1, k2]
  exact ⟨rfl, rfl⟩

theorem tile_within {z : Nat} (hz : z ≤ 20) {x : Int} : p_impl_within R x 0 (IntKind.i64.wrap (IntKind.i64.wrap (1 * 2 ^ ((z : Int)).toNat) - 1)) = decide (0 ≤ x ∧ x < ((2 ^ z : Nat) : Int)) := by
  have hp := pow20 (z := z) (by omega)
  show p_impl_within R x 0 (IntKind.i64.wrap (IntKind.i64.wrap (1 * 2 ^ z) - 1)) = _
  rw [many (by omega)]
  generalize 2 ^ z = Z at *
  rw [wrap_small (by omega) (by omega)]
  unfold p_impl_within
  by_cases h1 : 0 ≤ x
  · by_cases h2 : x < (Z : Int)
    · rw [dt h1, dt (show x ≤ (Z : Int) - 1 by omega), dt (show 0 ≤ x ∧ x < (Z : Int) from ⟨h1, h2⟩)]; rfl
    · rw [dt h1, df (show ¬ x ≤ (Z : Int) - 1 by omega), df (show ¬ (0 ≤ x ∧ x < (Z : Int)) from fun h => h2 h.2)]; rfl
  · rw [df h1, df (show ¬ (0 ≤ x ∧ x < (Z : Int)) from fun h => h1 h.1)]; rfl
theorem TileKey_eq {z : Nat} (hz : z ≤ 20) {x : Nat} {y : Int} (hx : x < 2 ^ z) : p_impl_TileKey R (z : Int) (x : Int) y = (if 0 ≤ y ∧ y < ((2 ^ z : Nat) : Int) then (kt z x y.toNat, true) else (ByteArray.mk #[], false)) ∧ r_impl_TileKey R (z : Int) (x : Int) y = true := by
  have hp := pow20 (z := z) (by omega)
  have hzm : p_impl_isZoom R (z : Int) = true := by
    unfold p_impl_isZoom p_impl_within
    rw [dt (show (0 : Int) ≤ (z : Int) by omega), dt (show (z : Int) ≤ 20 by omega)]; rfl
  have hx' : decide (0 ≤ (x : Int) ∧ (x : Int) < ((2 ^ z : Nat) : Int)) = true := dt ⟨by omega, by omega⟩
  unfold p_impl_TileKey r_impl_TileKey
  rw [hzm, tile_within hz, tile_within hz, hx', dt (show 0 ≤ (z : Int) by omega), dt (show (z : Int) ≤ Int.ofNat 64 by show (z : Int) ≤ (64 : Int); omega)]
  by_cases h : 0 ≤ y ∧ y < ((2 ^ z : Nat) : Int)
  · obtain ⟨k1, k2⟩ := tileKey_eq z x y.toNat hz (by omega) (by omega)
    have ey : ((y.toNat : Nat) : Int) = y := by omega
    rw [ey] at k1 k2
    rw [dt h, if_pos h, k1, k2]; exact ⟨rfl, rfl⟩
  · rw [df h, if_neg h]; exact ⟨rfl, rfl⟩
end Go.Dv
