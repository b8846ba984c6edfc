/- Numbers that are unpacked: what was packed is read back. -/
import Derived.Test.YtgfplcpjnlignaaDoorLhf
import Derived.Test.YtgfplcpjnlignaaDoorLlf
import Derived.Test.YtgfplcpjnlignaaDoorZlj
import Derived.Test.YtgfplcpjnlignaaDoorWls

set_option linter.unusedSimpArgs false
set_option linter.unusedVariables false
namespace Go.Dv
open Go.Cv

/-- a number of seven bits a byte, read from its least ones on: the number, and how many bytes it has -/
def rdN : Nat → List UInt8 → Nat → Nat → Option (Nat × Nat)
  | 0, _, _, _ => none
  | _ + 1, [], _, _ => none
  | k + 1, b :: r, i, acc => if b.toNat < 128 then some (acc + b.toNat % 128 * 2 ^ (7 * i), i + 1) else rdN k r (i + 1) (acc + b.toNat % 128 * 2 ^ (7 * i))
/-- the difference of a number -/
def unz (n : Nat) : Int := if n % 2 = 1 then -((n / 2 : Nat) : Int) - 1 else ((n / 2 : Nat) : Int)
theorem unz_zig (d : Int) : unz (zig d) = d := by
  unfold unz zig
  by_cases h : d < 0
  · rw [if_pos h]
    have : (-2 * d - 1).toNat % 2 = 1 := by omega
    rw [if_pos this]; omega
  · rw [if_neg h]
    have : ¬ (2 * d).toNat % 2 = 1 := by omega
    rw [if_neg this]; omega

theorem and127 (b : Nat) (h : b < 256) : bits .and .u8 (b : Int) 127 = ((b % 128 : Nat) : Int) := by
  have : ∀ n : Fin 256, bits .and .u8 ((n.1 : Nat) : Int) 127 = ((n.1 % 128 : Nat) : Int) := by decide +kernel
  exact this ⟨b, h⟩
theorem u64w {i : Int} (h0 : 0 ≤ i) (h1 : i < 18446744073709551616) : IntKind.u64.wrap i = i := by
  unfold IntKind.wrap
  have e1 : (IntKind.u64.bits) = 64 := rfl
  simp [IntKind.signed, e1]
  omega
theorem or_add {a c k : Nat} (ha : a < 2 ^ k) (hc : c < 128) (hk : k ≤ 28) : bits .or .u64 (a : Int) ((c * 2 ^ k : Nat) : Int) = ((a + c * 2 ^ k : Nat) : Int) := by
  have hp : 2 ^ k ≤ 268435456 := Nat.pow_le_pow_right (n := 2) (by decide) hk
  have hm : c * 2 ^ k ≤ 127 * 268435456 := Nat.mul_le_mul (by omega) hp
  have h1 : (BitVec.ofInt 64 (a : Int)).toNat = a := by
    rw [BitVec.ofInt_natCast, BitVec.toNat_ofNat]; exact Nat.mod_eq_of_lt (by omega)
  have h2 : (BitVec.ofInt 64 ((c * 2 ^ k : Nat) : Int)).toNat = c * 2 ^ k := by
    rw [BitVec.ofInt_natCast, BitVec.toNat_ofNat]; exact Nat.mod_eq_of_lt (by omega)
  show IntKind.u64.wrap ((BitVec.ofInt 64 (a : Int) ||| BitVec.ofInt 64 ((c * 2 ^ k : Nat) : Int)).toNat : Int) = _
  rw [BitVec.toNat_or, h1, h2]
  have h3 : a ||| c * 2 ^ k = a + c * 2 ^ k := by
    rw [Nat.mul_comm c, Nat.or_comm, ← Nat.two_pow_add_eq_or_of_lt ha, Nat.add_comm]
  rw [h3]
  exact u64w (by omega) (by omega)

theorem p2iB (m : Nat) : (2 : Int) ^ m = ((2 ^ m : Nat) : Int) := by rw [Int.natCast_pow]; rfl
theorem unz_run (n : Nat) (hn : n < 68719476736) : (bif ((n : Int)).tmod 2 == 1 then IntKind.i64.wrap (IntKind.i64.wrap (0 - IntKind.i64.wrap (IntKind.u64.wrap (((n : Int)).tdiv 2))) - 1) else IntKind.i64.wrap (IntKind.u64.wrap (((n : Int)).tdiv 2))) = unz n := by
  have e1 : ((n : Int)).tmod 2 = ((n % 2 : Nat) : Int) := rfl
  have e2 : ((n : Int)).tdiv 2 = ((n / 2 : Nat) : Int) := rfl
  rw [e1, e2, u64w (by omega) (by omega), wrap_small (i := ((n / 2 : Nat) : Int)) (by omega) (by omega), wrap_small (i := 0 - ((n / 2 : Nat) : Int)) (by omega) (by omega), wrap_small (by omega) (by omega)]
  unfold unz
  by_cases h : n % 2 = 1
  · rw [if_pos h, h]
    show 0 - ((n / 2 : Nat) : Int) - 1 = _
    omega
  · have h0 : n % 2 = 0 := by omega
    rw [if_neg h, h0]; rfl

/-- the loop reads as told -/
theorem unp_run (s : ByteArray) : ∀ (k i acc : Nat), i + k = 5 → i ≤ s.size → acc < 2 ^ (7 * i) →
    W_impl_unpackNumber_0 R (s, (acc : Int), (bif decide (5 < (s.size : Int)) then 5 else (s.size : Int)), (i : Int), 0, 0, false, ()) =
      some (match rdN k (s.data.toList.drop i) i acc with
        | some (n, c) => .inl (unz n, (c : Int), true, ())
        | none => .inr (0, 0, false, ())) := by
  have hmin : (bif decide (5 < (s.size : Int)) then 5 else (s.size : Int)) = ((min 5 s.size : Nat) : Int) := by
    by_cases h : 5 < (s.size : Int)
    · rw [dt h]; show (5 : Int) = _; omega
    · rw [df h]; show (s.size : Int) = _; omega
  rw [hmin]
  intro k
  induction k with
  | zero =>
    intro i acc hi hs ha
    refine runW_out ?_
    show st_impl_unpackNumber_0 R s (acc : Int) ((min 5 s.size : Nat) : Int) (i : Int) 0 0 false = _
    unfold st_impl_unpackNumber_0
    rw [df (show ¬ (i : Int) < ((min 5 s.size : Nat) : Int) by omega)]; rfl
  | succ k ih =>
    intro i acc hi hs ha
    by_cases hlt : i < s.size
    · obtain ⟨b, hb, hbv⟩ := byteAt_get s i hlt
      have hbl : b.toNat < 256 := b.toNat_lt
      have hd : s.data.toList.drop i = b :: s.data.toList.drop (i + 1) := by
        rw [List.drop_eq_getElem_cons (show i < s.data.toList.length from hlt)]
        rw [List.getElem?_eq_getElem (show i < s.data.toList.length from hlt)] at hb
        cases hb; rfl
      have h7 : IntKind.i64.wrap (7 * (i : Int)) = ((7 * i : Nat) : Int) := by rw [wrap_small (by omega) (by omega)]; omega
      have hp : 2 ^ (7 * i) ≤ 268435456 := Nat.pow_le_pow_right (n := 2) (j := 28) (by decide) (by omega)
      have hm : b.toNat % 128 * 2 ^ (7 * i) ≤ 127 * 268435456 := Nat.mul_le_mul (by omega) hp
      have hw : IntKind.u64.wrap (IntKind.u64.wrap (((b.toNat % 128 : Nat) : Int)) * 2 ^ (((7 * i : Nat) : Int)).toNat) = ((b.toNat % 128 * 2 ^ (7 * i) : Nat) : Int) := by
        show IntKind.u64.wrap (IntKind.u64.wrap (((b.toNat % 128 : Nat) : Int)) * 2 ^ (7 * i)) = _
        rw [u64w (i := ((b.toNat % 128 : Nat) : Int)) (by omega) (by omega), p2iB, ← Int.natCast_mul, u64w (by omega) (by omega)]
      have hor := or_add (c := b.toNat % 128) ha (by omega) (show 7 * i ≤ 28 by omega)
      have st : st_impl_unpackNumber_0 R s (acc : Int) ((min 5 s.size : Nat) : Int) (i : Int) 0 0 false =
          (if b.toNat < 128 then some (.inr (.inl (unz (acc + b.toNat % 128 * 2 ^ (7 * i)), ((i + 1 : Nat) : Int), true, ()))) else some (.inl (s, ((acc + b.toNat % 128 * 2 ^ (7 * i) : Nat) : Int), ((min 5 s.size : Nat) : Int), ((i + 1 : Nat) : Int), 0, 0, false, ()))) := by
        unfold st_impl_unpackNumber_0 k0_impl_unpackNumber_0
        rw [hbv, and127 _ hbl, h7, hw, hor, wrap_succ (by omega), dt (show (i : Int) < ((min 5 s.size : Nat) : Int) by omega), dt (show 0 ≤ (i : Int) by omega), dt (show (i : Int) < (s.size : Int) by omega), dt (show 0 ≤ ((7 * i : Nat) : Int) by omega), dt (show ((7 * i : Nat) : Int) ≤ Int.ofNat 64 by show ((7 * i : Nat) : Int) ≤ (64 : Int); omega)]
        by_cases hc : b.toNat < 128
        · rw [dt (show (b.toNat : Int) < 128 by omega), if_pos hc]
          have hu := unz_run (acc + b.toNat % 128 * 2 ^ (7 * i)) (by omega)
          rw [← hu]
          cases ((((acc + b.toNat % 128 * 2 ^ (7 * i) : Nat) : Int)).tmod 2 == 1) <;> rfl
        · rw [df (show ¬ (b.toNat : Int) < 128 by omega), if_neg hc]; rfl
      rw [hd]
      by_cases hc : b.toNat < 128
      · rw [if_pos hc] at st
        refine (runW_out (step := fun x => st_impl_unpackNumber_0 R x.1 x.2.1 x.2.2.1 x.2.2.2.1 x.2.2.2.2.1 x.2.2.2.2.2.1 x.2.2.2.2.2.2.1) st).trans ?_
        unfold rdN; rw [if_pos hc]
      · rw [if_neg hc] at st
        refine (runW_on (step := fun x => st_impl_unpackNumber_0 R x.1 x.2.1 x.2.2.1 x.2.2.2.1 x.2.2.2.2.1 x.2.2.2.2.2.1 x.2.2.2.2.2.2.1) st).trans ?_
        have h128 : 2 ^ (7 * (i + 1)) = 128 * 2 ^ (7 * i) := by
          have : 7 * (i + 1) = 7 * i + 7 := by omega
          rw [this, Nat.pow_add]; omega
        have hlt2 : acc + b.toNat % 128 * 2 ^ (7 * i) < 2 ^ (7 * (i + 1)) := by
          rw [h128]
          have : b.toNat % 128 * 2 ^ (7 * i) ≤ 127 * 2 ^ (7 * i) := Nat.mul_le_mul_right _ (by omega)
          omega
        have := ih (i + 1) (acc + b.toNat % 128 * 2 ^ (7 * i)) (by omega) (by omega) hlt2
        refine this.trans ?_
        rw [show rdN (k + 1) (b :: s.data.toList.drop (i + 1)) i acc = rdN k (s.data.toList.drop (i + 1)) (i + 1) (acc + b.toNat % 128 * 2 ^ (7 * i)) by rw [rdN, if_neg hc]]
    · have hnil : s.data.toList.drop i = [] := List.drop_eq_nil_of_le (by show s.size ≤ i; omega)
      rw [hnil]
      refine runW_out ?_
      show st_impl_unpackNumber_0 R s (acc : Int) ((min 5 s.size : Nat) : Int) (i : Int) 0 0 false = _
      unfold st_impl_unpackNumber_0
      rw [df (show ¬ (i : Int) < ((min 5 s.size : Nat) : Int) by omega)]; rfl

theorem unpack_eq (s : ByteArray) : r_impl_unpackNumber R s = true ∧ p_impl_unpackNumber R s = (match rdN 5 s.data.toList 0 0 with | some (n, c) => (unz n, (c : Int), true) | none => (0, 0, false)) := by
  have h := unp_run s 5 0 0 rfl (Nat.zero_le _) (by decide)
  rw [List.drop_zero] at h
  have hc : c0_impl_unpackNumber R s = some (match rdN 5 s.data.toList 0 0 with
        | some (n, c) => .inl (unz n, (c : Int), true, ())
        | none => .inr (0, 0, false, ())) := h
  unfold r_impl_unpackNumber p_impl_unpackNumber
  rw [hc]
  refine ⟨rfl, ?_⟩
  cases rdN 5 s.data.toList 0 0 with
  | none => rfl
  | some x => rfl

/-- what was packed is read back -/
theorem rdN_one (k n i acc : Nat) (rest : List UInt8) (hn : n < 128) : rdN (k + 1) ((nenc n).map (fun x => UInt8.ofNat x.toNat) ++ rest) i acc = some (acc + n * 2 ^ (7 * i), i + (nenc n).length) := by
  have e : nenc n = [((n : Nat) : Int)] := by unfold nenc; rw [npre_lt hn, nfin_lt hn]; rfl
  rw [e]
  have hb : (UInt8.ofNat ((n : Int)).toNat).toNat = n := by
    show (UInt8.ofNat n).toNat = n
    rw [UInt8.toNat_ofNat']; omega
  show rdN (k + 1) (UInt8.ofNat ((n : Int)).toNat :: rest) i acc = _
  rw [rdN, hb, if_pos hn, Nat.mod_eq_of_lt hn]; rfl
theorem rdN_nenc : ∀ (k n i acc : Nat) (rest : List UInt8), n < 128 ^ (k + 1) → rdN (k + 1) ((nenc n).map (fun x => UInt8.ofNat x.toNat) ++ rest) i acc = some (acc + n * 2 ^ (7 * i), i + (nenc n).length)
  | 0, n, i, acc, rest, h => rdN_one 0 n i acc rest (by simpa using h)
  | k + 1, n, i, acc, rest, h => by
    by_cases hn : n < 128
    · exact rdN_one _ n i acc rest hn
    · have e : nenc n = ((n % 128 + 128 : Nat) : Int) :: nenc (n / 128) := by
        unfold nenc
        rw [npre_ge hn, nfin_ge hn]; rfl
      rw [e]
      have hb : (UInt8.ofNat (((n % 128 + 128 : Nat) : Int)).toNat).toNat = n % 128 + 128 := by
        show (UInt8.ofNat (n % 128 + 128)).toNat = _
        rw [UInt8.toNat_ofNat']; omega
      show rdN (k + 1 + 1) (UInt8.ofNat (((n % 128 + 128 : Nat) : Int)).toNat :: ((nenc (n / 128)).map (fun x => UInt8.ofNat x.toNat) ++ rest)) i acc = _
      rw [rdN, hb, if_neg (by omega)]
      have hk : n / 128 < 128 ^ (k + 1) := by
        rw [Nat.pow_succ] at h
        exact Nat.div_lt_of_lt_mul (by rw [Nat.mul_comm]; exact h)
      rw [rdN_nenc k (n / 128) (i + 1) _ rest hk]
      have h128 : 2 ^ (7 * (i + 1)) = 128 * 2 ^ (7 * i) := by
        have : 7 * (i + 1) = 7 * i + 7 := by omega
        rw [this, Nat.pow_add]; omega
      have hm : (n % 128 + 128) % 128 = n % 128 := by omega
      rw [hm, h128, List.length_cons]
      have key : acc + n % 128 * 2 ^ (7 * i) + n / 128 * (128 * 2 ^ (7 * i)) = acc + n * 2 ^ (7 * i) := by
        have h1 : n / 128 * (128 * 2 ^ (7 * i)) = 128 * (n / 128) * 2 ^ (7 * i) := by rw [← Nat.mul_assoc, Nat.mul_comm (n / 128)]
        rw [h1, Nat.add_assoc, ← Nat.add_mul]
        have h2 : n % 128 + 128 * (n / 128) = n := by omega
        rw [h2]
      rw [key]
      congr 2; omega
end Go.Dv
