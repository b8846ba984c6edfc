/- Canonical floating-point words: a word with every NaN made one NaN, and the operations on them; each agrees with the model's operation up to the bits of a NaN. -/
import Derived.WalkKit
import Derived.WalkLawsBesides
namespace Go.Cv
open Ieee

/-- the one NaN -/
def nanOf : FloatKind → Nat
  | .f32 => 2143289344
  | .f64 => 9221120237041090561

def isNan (k : FloatKind) (n : Nat) : Bool := (k.format.read n).isNaN

def cn (k : FloatKind) (n : Nat) : Nat := if isNan k n then nanOf k else n

def lim (k : FloatKind) : Nat := 2 ^ k.format.width

theorem isNan_nanOf (k : FloatKind) : isNan k (nanOf k) = true := by cases k <;> decide +kernel
theorem nanOf_lt (k : FloatKind) : nanOf k < lim k := by cases k <;> decide +kernel

theorem cn_idem (k : FloatKind) (n : Nat) : cn k (cn k n) = cn k n := by
  unfold cn; split
  · simp [isNan_nanOf]
  · rename_i h; simp [*]

theorem cn_of_not {k : FloatKind} {n : Nat} (h : isNan k n = false) : cn k n = n := by simp [cn, h]
theorem cn_of_nan {k : FloatKind} {n : Nat} (h : isNan k n = true) : cn k n = nanOf k := by simp [cn, h]
theorem isNan_cn (k : FloatKind) (n : Nat) : isNan k (cn k n) = isNan k n := by
  cases h : isNan k n
  · rw [cn_of_not h, h]
  · rw [cn_of_nan h, isNan_nanOf]

theorem cn_lt {k : FloatKind} {n : Nat} (h : n < lim k) : cn k n < lim k := by
  unfold cn; split
  · exact nanOf_lt k
  · exact h

/-- two words of one canonical word are equal or both NaN -/
theorem cn_eq {k : FloatKind} {a b : Nat} (h : cn k a = cn k b) : a = b ∨ (isNan k a = true ∧ isNan k b = true) := by
  cases ha : isNan k a <;> cases hb : isNan k b
  · left; rwa [cn_of_not ha, cn_of_not hb] at h
  · exfalso; rw [cn_of_not ha, cn_of_nan hb] at h; rw [h, isNan_nanOf] at ha; cases ha
  · exfalso; rw [cn_of_nan ha, cn_of_not hb] at h; rw [← h, isNan_nanOf] at hb; cases hb
  · right; exact ⟨rfl, rfl⟩

/-! ### what is written is no NaN -/

theorem word_rung (f : Format) (neg : Bool) (r : Nat) (h : r < f.signWeight) : f.word neg r % f.signWeight = r := by
  unfold Format.word
  cases neg
  · simp [Nat.mod_eq_of_lt h]
  · simp [Nat.mod_eq_of_lt h]

theorem read_of_rung_le {f : Format} {w : Nat} (h : w % f.signWeight ≤ f.infRung) : (f.read w).isNaN = false := by
  unfold Format.read
  simp only
  split
  · rfl
  · split
    · rfl
    · split
      · rfl
      · omega

theorem nearest_rung (f : Format) (neg : Bool) (mag : Nat) (place : Int) : f.nearest neg mag place % f.signWeight ≤ f.infRung := by
  have hi := f.infRung_lt
  unfold Format.nearest
  split
  · rw [word_rung _ _ _ (by omega)]; omega
  · simp only
    rw [word_rung _ _ _ (by omega)]
    omega

theorem write_not_nan (f : Format) (d : Datum) (h : d.isNaN = false) : (f.read (f.write d)).isNaN = false := by
  cases d with
  | number s m e => exact read_of_rung_le (nearest_rung f s m e)
  | infinity s => exact read_of_rung_le (by rw [Format.write, word_rung _ _ _ f.infRung_lt]; omega)
  | nan s t => cases h

theorem sum_not_nan {x y d : Datum} (h : x.sum y = some d) : d.isNaN = false := by
  unfold Datum.sum at h
  split at h <;> simp at h
  · obtain ⟨_, rfl⟩ := h; rfl
  · subst h; rfl
  · subst h; rfl
  · subst h; rfl

theorem product_not_nan {x y d : Datum} (h : x.product y = some d) : d.isNaN = false := by
  unfold Datum.product at h
  split at h <;> simp at h
  · subst h; rfl
  · obtain ⟨_, rfl⟩ := h; rfl
  · obtain ⟨_, rfl⟩ := h; rfl
  · subst h; rfl

theorem quotient_not_nan {n : Nat} {x y d : Datum} (h : x.quotient n y = some d) : d.isNaN = false := by
  unfold Datum.quotient at h
  split at h <;> simp at h
  · subst h; rfl
  · subst h; rfl
  · split at h
    · split at h <;> cases h; rfl
    · cases h; rfl

theorem root_not_nan {n : Nat} {x d : Datum} (h : x.root n = some d) : d.isNaN = false := by
  unfold Datum.root at h
  split at h <;> simp at h
  · obtain ⟨_, rfl⟩ := h; rfl
  · split at h
    · cases h; rfl
    · split at h <;> cases h; rfl

theorem map_write_not_nan {f : Format} {o : Option Datum} {r : Nat} (ho : ∀ d, o = some d → d.isNaN = false) (h : o.map f.write = some r) : (f.read r).isNaN = false := by
  cases o with
  | none => cases h
  | some d => cases h; exact write_not_nan f d (ho d rfl)

/-! ### the operations -/

def some_ (k : FloatKind) (o : Option Nat) : Nat := o.getD (nanOf k)

def fadd (k : FloatKind) (a b : Nat) : Nat := some_ k (k.format.add a b)
def fsub (k : FloatKind) (a b : Nat) : Nat := some_ k (k.format.sub a b)
def fmul (k : FloatKind) (a b : Nat) : Nat := some_ k (k.format.mul a b)
def fdiv (k : FloatKind) (a b : Nat) : Nat := some_ k (k.format.div a b)
def fsqrt (a : Nat) : Nat := some_ .f64 (FloatKind.f64.format.sqrt a)
def fbin (op : BinOp) (k : FloatKind) (a b : Nat) : Nat := some_ k (floatBits op k a b)
def fneg (k : FloatKind) (a : Nat) : Nat := cn k (Op.negFloat k a)
def feq (k : FloatKind) (a b : Nat) : Bool := k.format.order a b == some .eq
def flt (k : FloatKind) (a b : Nat) : Bool := k.format.order a b == some .lt
def fle (k : FloatKind) (a b : Nat) : Bool := k.format.order a b == some .lt || k.format.order a b == some .eq
def fgt (k : FloatKind) (a b : Nat) : Bool := k.format.order a b == some .gt
def fge (k : FloatKind) (a b : Nat) : Bool := k.format.order a b == some .gt || k.format.order a b == some .eq
def ffloor (way : Toward) (a : Nat) : Nat := if isNan .f64 a then nanOf .f64 else FloatKind.f64.encode ((FloatKind.f64.decode a).integral way)

/-- a word of a format that reads as a NaN gives no answer -/
theorem nan_read {k : FloatKind} {n : Nat} (h : isNan k n = true) : ∃ s t, k.format.read n = .nan s t := by
  unfold isNan at h
  cases hr : k.format.read n <;> rw [hr] at h <;> first | cases h; done | exact ⟨_, _, rfl⟩

theorem floatBits_nan_left {op : BinOp} {k : FloatKind} {a b : Nat} (h : isNan k a = true) : floatBits op k a b = none := by
  obtain ⟨s, t, e⟩ := nan_read h
  cases op <;> simp [floatBits, Format.add, Format.sub, Format.mul, Format.div, e, Datum.sum, Datum.product, Datum.quotient]

theorem floatBits_nan_right {op : BinOp} {k : FloatKind} {a b : Nat} (h : isNan k b = true) : floatBits op k a b = none := by
  obtain ⟨s, t, e⟩ := nan_read h
  cases op <;> simp only [floatBits, Format.add, Format.sub, Format.mul, Format.div, e] <;> cases k.format.read a <;> rfl

theorem floatBits_cn (op : BinOp) (k : FloatKind) (a b : Nat) : floatBits op k (cn k a) (cn k b) = floatBits op k a b := by
  cases ha : isNan k a
  · rw [cn_of_not ha]
    cases hb : isNan k b
    · rw [cn_of_not hb]
    · rw [floatBits_nan_right hb, floatBits_nan_right (by rw [isNan_cn, hb])]
  · rw [floatBits_nan_left ha, floatBits_nan_left (by rw [isNan_cn, ha])]

theorem floatBits_not_nan {op : BinOp} {k : FloatKind} {a b r : Nat} (h : floatBits op k a b = some r) : isNan k r = false := by
  unfold floatBits at h
  split at h
  · exact map_write_not_nan (fun d hd => sum_not_nan hd) h
  · exact map_write_not_nan (fun d hd => sum_not_nan hd) h
  · exact map_write_not_nan (fun d hd => product_not_nan hd) h
  · exact map_write_not_nan (fun d hd => quotient_not_nan hd) h
  · cases h

theorem floatBits_lt {op : BinOp} {k : FloatKind} {a b r : Nat} (h : floatBits op k a b = some r) : r < lim k := by
  unfold floatBits at h
  split at h
  · exact k.format.add_lt h
  · exact k.format.sub_lt h
  · exact k.format.mul_lt h
  · exact k.format.div_lt h
  · cases h

theorem order_cn (k : FloatKind) (a b : Nat) : k.format.order (cn k a) (cn k b) = k.format.order a b := by
  unfold Format.order
  cases ha : isNan k a
  · rw [cn_of_not ha]
    cases hb : isNan k b
    · rw [cn_of_not hb]
    · obtain ⟨s, t, e⟩ := nan_read hb
      obtain ⟨s', t', e'⟩ := nan_read (k := k) (n := cn k b) (by rw [isNan_cn, hb])
      rw [e, e']; cases k.format.read a <;> rfl
  · obtain ⟨s, t, e⟩ := nan_read ha
    obtain ⟨s', t', e'⟩ := nan_read (k := k) (n := cn k a) (by rw [isNan_cn, ha])
    rw [e, e']; rfl

/-- the sign turned: the rung stays -/
theorem xor_pow_mod (x n : Nat) : (x ^^^ 2 ^ n) % 2 ^ n = x % 2 ^ n := by
  apply Nat.eq_of_testBit_eq
  intro i
  simp only [Nat.testBit_mod_two_pow, Nat.testBit_xor, Nat.testBit_two_pow]
  by_cases h : i < n
  · have : n ≠ i := by omega
    simp [h, this]
  · simp [h]

theorem isNan_neg (k : FloatKind) (a : Nat) : isNan k (Op.negFloat k a) = isNan k a := by
  have key : ∀ x y, x % k.format.signWeight = y % k.format.signWeight → (k.format.read x).isNaN = (k.format.read y).isNaN := by
    intro x y h
    unfold Format.read
    simp only [h]
    split
    · rfl
    · split
      · rfl
      · split <;> rfl
  exact key _ _ (xor_pow_mod _ _)

theorem neg_lt {k : FloatKind} {a : Nat} (h : a < lim k) : Op.negFloat k a < lim k := by
  unfold Op.negFloat lim at *
  refine Nat.xor_lt_two_pow h ?_
  exact Nat.pow_lt_pow_right (by omega) (by unfold Format.width; omega)

theorem cn_neg (k : FloatKind) (a : Nat) : fneg k (cn k a) = cn k (Op.negFloat k a) := by
  unfold fneg
  cases ha : isNan k a
  · rw [cn_of_not ha]
  · rw [cn_of_nan (n := Op.negFloat k a) (by rw [isNan_neg, ha]), cn_of_nan (by rw [isNan_neg, isNan_cn, ha])]

/-- a float32 or float64 at another width: 'none' where the answer is not fixed (too great for the narrower one) -/
def fconv (src : FloatKind) (n : Nat) (dst : FloatKind) : Option Nat :=
  if src = dst then some (cn src n) else if isNan src n then some (nanOf dst) else floatToFloatBits src n dst

theorem fconv_cn (src : FloatKind) (n : Nat) (dst : FloatKind) : fconv src (cn src n) dst = fconv src n dst := by
  unfold fconv
  rw [cn_idem, isNan_cn]
  cases h : isNan src n
  · rw [cn_of_not h]
  · rfl

/-- the bits of a NaN that the tape gives are a NaN -/
theorem nanCut32 (t : Nat) : isNan .f32 ((t % 2) * 2 ^ 31 + 0x7f800000 + 1 + (t / 2) % (2 ^ 23 - 1)) = true ∧ (t % 2) * 2 ^ 31 + 0x7f800000 + 1 + (t / 2) % (2 ^ 23 - 1) < lim .f32 := by
  have h1 : t % 2 < 2 := Nat.mod_lt _ (by omega)
  have h2 : (t / 2) % (2 ^ 23 - 1) < 2 ^ 23 - 1 := Nat.mod_lt _ (by decide)
  generalize (t / 2) % (2 ^ 23 - 1) = m at h2 ⊢
  generalize t % 2 = s at h1 ⊢
  have e : FloatKind.f32.format = ⟨8, 23⟩ := rfl
  refine ⟨?_, by unfold lim Format.width; rw [e]; simp at h2 ⊢; omega⟩
  unfold isNan
  rw [e]
  unfold Format.read
  have eS : Format.signWeight ⟨8, 23⟩ = 2147483648 := by decide
  have eB : Format.binade ⟨8, 23⟩ = 8388608 := by decide
  have eI : Format.infRung ⟨8, 23⟩ = 2139095040 := by decide
  simp only [eS, eB, eI]
  rw [if_neg (by omega), if_neg (by omega), if_neg (by omega)]
  rfl

theorem nanCut64 (t : Nat) : isNan .f64 ((t % 2) * 2 ^ 63 + 0x7ff0000000000000 + 1 + (t / 2) % (2 ^ 52 - 1)) = true ∧ (t % 2) * 2 ^ 63 + 0x7ff0000000000000 + 1 + (t / 2) % (2 ^ 52 - 1) < lim .f64 := by
  have h1 : t % 2 < 2 := Nat.mod_lt _ (by omega)
  have h2 : (t / 2) % (2 ^ 52 - 1) < 2 ^ 52 - 1 := Nat.mod_lt _ (by decide)
  generalize (t / 2) % (2 ^ 52 - 1) = m at h2 ⊢
  generalize t % 2 = s at h1 ⊢
  have e : FloatKind.f64.format = ⟨11, 52⟩ := rfl
  refine ⟨?_, by unfold lim Format.width; rw [e]; simp at h2 ⊢; omega⟩
  unfold isNan
  rw [e]
  unfold Format.read
  have eS : Format.signWeight ⟨11, 52⟩ = 9223372036854775808 := by decide
  have eB : Format.binade ⟨11, 52⟩ = 4503599627370496 := by decide
  have eI : Format.infRung ⟨11, 52⟩ = 9218868437227405312 := by decide
  simp only [eS, eB, eI]
  rw [if_neg (by omega), if_neg (by omega), if_neg (by omega)]
  rfl

end Go.Cv
