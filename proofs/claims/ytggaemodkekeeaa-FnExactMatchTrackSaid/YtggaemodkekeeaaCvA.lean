/- CvA, CvC, Fo: merged by merge.py. -/
import Derived.WalkKit
import Derived.WalkLawsBesides

/- Canonical floating-point words: a word with every NaN made one NaN, and the operations on them; each agrees with the model's operation up to the bits of a NaN. -/
namespace Go.Cv
open Ieee

/-- the one NaN -/
def nanOf : FloatKind → Nat
  | .f32 => 2143289344
  | .f64 => 9221120237041090561

def isNan (k : FloatKind) (n : Nat) : Bool := (k.format.read n).isNaN

def cn (k : FloatKind) (n : Nat) : Nat := if isNan k n then nanOf k else n

def lim (k : FloatKind) : Nat := 2 ^ k.format.width

theorem isNan_nanOf (k : FloatKind) : isNan k (nanOf k) = true := by cases k <;> decide +kernel
theorem cn_idem (k : FloatKind) (n : Nat) : cn k (cn k n) = cn k n := by
  unfold cn; split
  · simp [isNan_nanOf]
  · rename_i h; simp [*]

theorem cn_of_not {k : FloatKind} {n : Nat} (h : isNan k n = false) : cn k n = n := by simp [cn, h]
theorem cn_of_nan {k : FloatKind} {n : Nat} (h : isNan k n = true) : cn k n = nanOf k := by simp [cn, h]
theorem isNan_cn (k : FloatKind) (n : Nat) : isNan k (cn k n) = isNan k n := by
  cases h : isNan k n
  · rw [cn_of_not h, h]
  · rw [cn_of_nan h, isNan_nanOf]

/-! ### what is written is no NaN -/

theorem word_rung (f : Format) (neg : Bool) (r : Nat) (h : r < f.signWeight) : f.word neg r % f.signWeight = r := by
  unfold Format.word
  cases neg
  · simp [Nat.mod_eq_of_lt h]
  · simp [Nat.mod_eq_of_lt h]

theorem read_of_rung_le {f : Format} {w : Nat} (h : w % f.signWeight ≤ f.infRung) : (f.read w).isNaN = false := by
  unfold Format.read
  simp only
  split
  · rfl
  · split
    · rfl
    · split
      · rfl
      · omega

theorem nearest_rung (f : Format) (neg : Bool) (mag : Nat) (place : Int) : f.nearest neg mag place % f.signWeight ≤ f.infRung := by
  have hi := f.infRung_lt
  unfold Format.nearest
  split
  · rw [word_rung _ _ _ (by omega)]; omega
  · simp only
    rw [word_rung _ _ _ (by omega)]
    omega

theorem write_not_nan (f : Format) (d : Datum) (h : d.isNaN = false) : (f.read (f.write d)).isNaN = false := by
  cases d with
  | number s m e => exact read_of_rung_le (nearest_rung f s m e)
  | infinity s => exact read_of_rung_le (by rw [Format.write, word_rung _ _ _ f.infRung_lt]; omega)
  | nan s t => cases h

theorem sum_not_nan {x y d : Datum} (h : x.sum y = some d) : d.isNaN = false := by
  unfold Datum.sum at h
  split at h <;> simp at h
  · obtain ⟨_, rfl⟩ := h; rfl
  · subst h; rfl
  · subst h; rfl
  · subst h; rfl

theorem product_not_nan {x y d : Datum} (h : x.product y = some d) : d.isNaN = false := by
  unfold Datum.product at h
  split at h <;> simp at h
  · subst h; rfl
  · obtain ⟨_, rfl⟩ := h; rfl
  · obtain ⟨_, rfl⟩ := h; rfl
  · subst h; rfl

theorem quotient_not_nan {n : Nat} {x y d : Datum} (h : x.quotient n y = some d) : d.isNaN = false := by
  unfold Datum.quotient at h
  split at h <;> simp at h
  · subst h; rfl
  · subst h; rfl
  · split at h
    · split at h <;> cases h; rfl
    · cases h; rfl

theorem root_not_nan {n : Nat} {x d : Datum} (h : x.root n = some d) : d.isNaN = false := by
  unfold Datum.root at h
  split at h <;> simp at h
  · obtain ⟨_, rfl⟩ := h; rfl
  · split at h
    · cases h; rfl
    · split at h <;> cases h; rfl

theorem map_write_not_nan {f : Format} {o : Option Datum} {r : Nat} (ho : ∀ d, o = some d → d.isNaN = false) (h : o.map f.write = some r) : (f.read r).isNaN = false := by
  cases o with
  | none => cases h
  | some d => cases h; exact write_not_nan f d (ho d rfl)

/-! ### the operations -/

def some_ (k : FloatKind) (o : Option Nat) : Nat := o.getD (nanOf k)

def fsqrt (a : Nat) : Nat := some_ .f64 (FloatKind.f64.format.sqrt a)
def fbin (op : BinOp) (k : FloatKind) (a b : Nat) : Nat := some_ k (floatBits op k a b)
def fneg (k : FloatKind) (a : Nat) : Nat := cn k (Op.negFloat k a)
def feq (k : FloatKind) (a b : Nat) : Bool := k.format.order a b == some .eq
def flt (k : FloatKind) (a b : Nat) : Bool := k.format.order a b == some .lt
def fle (k : FloatKind) (a b : Nat) : Bool := k.format.order a b == some .lt || k.format.order a b == some .eq
def fgt (k : FloatKind) (a b : Nat) : Bool := k.format.order a b == some .gt
def fge (k : FloatKind) (a b : Nat) : Bool := k.format.order a b == some .gt || k.format.order a b == some .eq
def ffloor (way : Toward) (a : Nat) : Nat := if isNan .f64 a then nanOf .f64 else FloatKind.f64.encode ((FloatKind.f64.decode a).integral way)

/-- a word of a format that reads as a NaN gives no answer -/
theorem nan_read {k : FloatKind} {n : Nat} (h : isNan k n = true) : ∃ s t, k.format.read n = .nan s t := by
  unfold isNan at h
  cases hr : k.format.read n <;> rw [hr] at h <;> first | cases h; done | exact ⟨_, _, rfl⟩

theorem floatBits_nan_left {op : BinOp} {k : FloatKind} {a b : Nat} (h : isNan k a = true) : floatBits op k a b = none := by
  obtain ⟨s, t, e⟩ := nan_read h
  cases op <;> simp [floatBits, Format.add, Format.sub, Format.mul, Format.div, e, Datum.sum, Datum.product, Datum.quotient]

theorem floatBits_nan_right {op : BinOp} {k : FloatKind} {a b : Nat} (h : isNan k b = true) : floatBits op k a b = none := by
  obtain ⟨s, t, e⟩ := nan_read h
  cases op <;> simp only [floatBits, Format.add, Format.sub, Format.mul, Format.div, e] <;> cases k.format.read a <;> rfl

theorem floatBits_cn (op : BinOp) (k : FloatKind) (a b : Nat) : floatBits op k (cn k a) (cn k b) = floatBits op k a b := by
  cases ha : isNan k a
  · rw [cn_of_not ha]
    cases hb : isNan k b
    · rw [cn_of_not hb]
    · rw [floatBits_nan_right hb, floatBits_nan_right (by rw [isNan_cn, hb])]
  · rw [floatBits_nan_left ha, floatBits_nan_left (by rw [isNan_cn, ha])]

theorem floatBits_not_nan {op : BinOp} {k : FloatKind} {a b r : Nat} (h : floatBits op k a b = some r) : isNan k r = false := by
  unfold floatBits at h
  split at h
  · exact map_write_not_nan (fun d hd => sum_not_nan hd) h
  · exact map_write_not_nan (fun d hd => sum_not_nan hd) h
  · exact map_write_not_nan (fun d hd => product_not_nan hd) h
  · exact map_write_not_nan (fun d hd => quotient_not_nan hd) h
  · cases h

theorem floatBits_lt {op : BinOp} {k : FloatKind} {a b r : Nat} (h : floatBits op k a b = some r) : r < lim k := by
  unfold floatBits at h
  split at h
  · exact k.format.add_lt h
  · exact k.format.sub_lt h
  · exact k.format.mul_lt h
  · exact k.format.div_lt h
  · cases h

theorem order_cn (k : FloatKind) (a b : Nat) : k.format.order (cn k a) (cn k b) = k.format.order a b := by
  unfold Format.order
  cases ha : isNan k a
  · rw [cn_of_not ha]
    cases hb : isNan k b
    · rw [cn_of_not hb]
    · obtain ⟨s, t, e⟩ := nan_read hb
      obtain ⟨s', t', e'⟩ := nan_read (k := k) (n := cn k b) (by rw [isNan_cn, hb])
      rw [e, e']; cases k.format.read a <;> rfl
  · obtain ⟨s, t, e⟩ := nan_read ha
    obtain ⟨s', t', e'⟩ := nan_read (k := k) (n := cn k a) (by rw [isNan_cn, ha])
    rw [e, e']; rfl

/-- the sign turned: the rung stays -/
theorem xor_pow_mod (x n : Nat) : (x ^^^ 2 ^ n) % 2 ^ n = x % 2 ^ n := by
  apply Nat.eq_of_testBit_eq
  intro i
  simp only [Nat.testBit_mod_two_pow, Nat.testBit_xor, Nat.testBit_two_pow]
  by_cases h : i < n
  · have : n ≠ i := by omega
    simp [h, this]
  · simp [h]

theorem isNan_neg (k : FloatKind) (a : Nat) : isNan k (Op.negFloat k a) = isNan k a := by
  have key : ∀ x y, x % k.format.signWeight = y % k.format.signWeight → (k.format.read x).isNaN = (k.format.read y).isNaN := by
    intro x y h
    unfold Format.read
    simp only [h]
    split
    · rfl
    · split
      · rfl
      · split <;> rfl
  exact key _ _ (xor_pow_mod _ _)

theorem neg_lt {k : FloatKind} {a : Nat} (h : a < lim k) : Op.negFloat k a < lim k := by
  unfold Op.negFloat lim at *
  refine Nat.xor_lt_two_pow h ?_
  exact Nat.pow_lt_pow_right (by omega) (by unfold Format.width; omega)

theorem cn_neg (k : FloatKind) (a : Nat) : fneg k (cn k a) = cn k (Op.negFloat k a) := by
  unfold fneg
  cases ha : isNan k a
  · rw [cn_of_not ha]
  · rw [cn_of_nan (n := Op.negFloat k a) (by rw [isNan_neg, ha]), cn_of_nan (by rw [isNan_neg, isNan_cn, ha])]

/-- a float32 or float64 at another width: 'none' where the answer is not fixed (too great for the narrower one) -/
def fconv (src : FloatKind) (n : Nat) (dst : FloatKind) : Option Nat :=
  if src = dst then some (cn src n) else if isNan src n then some (nanOf dst) else floatToFloatBits src n dst

theorem fconv_cn (src : FloatKind) (n : Nat) (dst : FloatKind) : fconv src (cn src n) dst = fconv src n dst := by
  unfold fconv
  rw [cn_idem, isNan_cn]
  cases h : isNan src n
  · rw [cn_of_not h]
  · rfl

/-- the bits of a NaN that the tape gives are a NaN -/
theorem nanCut32 (t : Nat) : isNan .f32 ((t % 2) * 2 ^ 31 + 0x7f800000 + 1 + (t / 2) % (2 ^ 23 - 1)) = true ∧ (t % 2) * 2 ^ 31 + 0x7f800000 + 1 + (t / 2) % (2 ^ 23 - 1) < lim .f32 := by
  have h1 : t % 2 < 2 := Nat.mod_lt _ (by omega)
  have h2 : (t / 2) % (2 ^ 23 - 1) < 2 ^ 23 - 1 := Nat.mod_lt _ (by decide)
  generalize (t / 2) % (2 ^ 23 - 1) = m at h2 ⊢
  generalize t % 2 = s at h1 ⊢
  have e : FloatKind.f32.format = ⟨8, 23⟩ := rfl
  refine ⟨?_, by unfold lim Format.width; rw [e]; simp at h2 ⊢; omega⟩
  unfold isNan
  rw [e]
  unfold Format.read
  have eS : Format.signWeight ⟨8, 23⟩ = 2147483648 := by decide
  have eB : Format.binade ⟨8, 23⟩ = 8388608 := by decide
  have eI : Format.infRung ⟨8, 23⟩ = 2139095040 := by decide
  simp only [eS, eB, eI]
  rw [if_neg (by omega), if_neg (by omega), if_neg (by omega)]
  rfl

theorem nanCut64 (t : Nat) : isNan .f64 ((t % 2) * 2 ^ 63 + 0x7ff0000000000000 + 1 + (t / 2) % (2 ^ 52 - 1)) = true ∧ (t % 2) * 2 ^ 63 + 0x7ff0000000000000 + 1 + (t / 2) % (2 ^ 52 - 1) < lim .f64 := by
  have h1 : t % 2 < 2 := Nat.mod_lt _ (by omega)
  have h2 : (t / 2) % (2 ^ 52 - 1) < 2 ^ 52 - 1 := Nat.mod_lt _ (by decide)
  generalize (t / 2) % (2 ^ 52 - 1) = m at h2 ⊢
  generalize t % 2 = s at h1 ⊢
  have e : FloatKind.f64.format = ⟨11, 52⟩ := rfl
  refine ⟨?_, by unfold lim Format.width; rw [e]; simp at h2 ⊢; omega⟩
  unfold isNan
  rw [e]
  unfold Format.read
  have eS : Format.signWeight ⟨11, 52⟩ = 9223372036854775808 := by decide
  have eB : Format.binade ⟨11, 52⟩ = 4503599627370496 := by decide
  have eI : Format.infRung ⟨11, 52⟩ = 9218868437227405312 := by decide
  simp only [eS, eB, eI]
  rw [if_neg (by omega), if_neg (by omega), if_neg (by omega)]
  rfl

end Go.Cv

/- What the model's operations on floats give, up to draws and the bits of a NaN. -/
namespace Go.Cv
open Go.RowKit

/-! ### a float32 is a float64 -/

theorem cut_zero (way : Ieee.Toward) (neg : Bool) (n : Nat) : way.cut neg n 0 = n := by
  have h1 : (1 : Nat) <<< min 0 (n.log2 + 2) = 1 := by simp
  unfold Ieee.Toward.cut
  simp only [h1, Nat.div_one, Nat.mod_one]
  cases way <;> simp

theorem read_single (n : Nat) : (∃ s, FloatKind.f32.format.read n = .infinity s) ∨ (∃ s t, FloatKind.f32.format.read n = .nan s t) ∨ ∃ s m e, FloatKind.f32.format.read n = .number s m e ∧ m < 2 ^ 24 ∧ -149 ≤ e ∧ e ≤ 104 := by
  have e : FloatKind.f32.format = ⟨8, 23⟩ := rfl
  rw [e]
  unfold Ieee.Format.read
  have eS : Ieee.Format.signWeight ⟨8, 23⟩ = 2147483648 := by decide
  have eB : Ieee.Format.binade ⟨8, 23⟩ = 8388608 := by decide
  have eI : Ieee.Format.infRung ⟨8, 23⟩ = 2139095040 := by decide
  have eL : Ieee.Format.leastPlace ⟨8, 23⟩ = -149 := by decide
  simp only [eS, eB, eI, eL]
  generalize n % 2147483648 = r
  split
  · exact .inr (.inr ⟨_, _, _, rfl, by omega, by omega, by omega⟩)
  · split
    · refine .inr (.inr ⟨_, _, _, rfl, by omega, by omega, ?_⟩)
      have : r / 8388608 ≤ 254 := by omega
      omega
    · split
      · exact .inl ⟨_, rfl⟩
      · exact .inr (.inl ⟨_, _, rfl⟩)

theorem log2_lt {m k : Nat} (hm : m ≠ 0) (h : m < 2 ^ k) : m.log2 < k := (Nat.log2_lt hm).2 h

theorem nearest_wide (s : Bool) (m : Nat) (e : Int) (hm : m ≠ 0) (h1 : m < 2 ^ 24) (h2 : -149 ≤ e) (h3 : e ≤ 104) :
    FloatKind.f64.format.nearest s m e = FloatKind.f64.format.word s ((e + m.log2 + 1022).toNat * 4503599627370496 + m <<< (52 - m.log2)) ∧
    (e + m.log2 + 1022).toNat * 4503599627370496 + m <<< (52 - m.log2) < 9218868437227405312 := by
  have ef : FloatKind.f64.format = ⟨11, 52⟩ := rfl
  rw [ef]
  have eB : Ieee.Format.binade ⟨11, 52⟩ = 4503599627370496 := by decide
  have eI : Ieee.Format.infRung ⟨11, 52⟩ = 9218868437227405312 := by decide
  have eL : Ieee.Format.leastPlace ⟨11, 52⟩ = -1074 := by decide
  have hl : m.log2 < 24 := log2_lt hm h1
  have hk : m <<< (52 - m.log2) < 9007199254740992 := by
    rw [Nat.shiftLeft_eq]
    have h4 : m < 2 ^ (m.log2 + 1) := Nat.lt_log2_self
    have h5 : m * 2 ^ (52 - m.log2) < 2 ^ (m.log2 + 1) * 2 ^ (52 - m.log2) := Nat.mul_lt_mul_of_pos_right h4 (Nat.two_pow_pos _)
    have h6 : m.log2 + 1 + (52 - m.log2) = 53 := by omega
    have h7 : (2 : Nat) ^ 53 = 9007199254740992 := by decide
    rw [← Nat.pow_add, h6, h7] at h5
    exact h5
  have hb : (e + m.log2 + 1022).toNat * 4503599627370496 + m <<< (52 - m.log2) < 9218868437227405312 := by
    have : (e + m.log2 + 1022).toNat ≤ 1149 := by omega
    omega
  refine ⟨?_, hb⟩
  unfold Ieee.Format.nearest
  rw [if_neg hm]
  simp only [eB, eI, eL]
  have e1 : max (e + (m.log2 : Int) - (52 : Nat)) (-1074) = e + m.log2 - 52 := by omega
  rw [e1]
  have e2 : (e + (m.log2 : Int) - 52 - e).toNat = 0 := by omega
  have e3 : (e - (e + (m.log2 : Int) - 52)).toNat = 52 - m.log2 := by omega
  have e4 : (e + (m.log2 : Int) - 52 - (-1074)).toNat = (e + m.log2 + 1022).toNat := by omega
  rw [e2, e3, e4, cut_zero, Nat.min_eq_left (Nat.le_of_lt hb)]

theorem wid_ok (n : Nat) (hn : isNan .f32 n = false) :
    (match FloatKind.f32.decode n with
      | .nan _ _ => none
      | .infinity s => some (FloatKind.f64.encode (.infinity s))
      | .number s m e => if (FloatKind.f64.decode (FloatKind.f64.encode (.number s m e))).isInfinity then none else some (FloatKind.f64.encode (.number s m e)) : Option Nat).isSome = true := by
  have hd : FloatKind.f32.decode n = FloatKind.f32.format.read n := rfl
  rw [hd]
  rcases read_single n with ⟨s, h⟩ | ⟨s, t, h⟩ | ⟨s, m, e, h, h1, h2, h3⟩
  · rw [h]; rfl
  · unfold isNan at hn; rw [h] at hn; cases hn
  · rw [h]
    simp only
    have hfin : (FloatKind.f64.decode (FloatKind.f64.encode (.number s m e))).isInfinity = false := by
      show (FloatKind.f64.format.read (FloatKind.f64.format.nearest s m e)).isInfinity = false
      have key : ∀ r, r < 9218868437227405312 → (FloatKind.f64.format.read (FloatKind.f64.format.word s r)).isInfinity = false := fun r hr => by
        have hw : FloatKind.f64.format.word s r % FloatKind.f64.format.signWeight = r := word_rung _ s r (by
          have : FloatKind.f64.format.signWeight = 9223372036854775808 := by decide
          omega)
        unfold Ieee.Format.read
        simp only [hw]
        have eB : FloatKind.f64.format.binade = 4503599627370496 := by decide
        have eI : FloatKind.f64.format.infRung = 9218868437227405312 := by decide
        rw [eB, eI]
        split
        · rfl
        · first | rfl | (rw [if_pos hr]; rfl)
      by_cases hm : m = 0
      · subst hm
        have : FloatKind.f64.format.nearest s 0 e = FloatKind.f64.format.word s 0 := by unfold Ieee.Format.nearest; rw [if_pos rfl]
        rw [this]; exact key 0 (by decide)
      · obtain ⟨h4, h5⟩ := nearest_wide s m e hm h1 h2 h3
        rw [h4]; exact key _ h5
    rw [hfin]; rfl

section
variable {P : Program} (w : World)

theorem nan_bits (k : FloatKind) (x y t : Nat) : isNan k ((Question.nanBits k x y).cut t) = true ∧ (Question.nanBits k x y).cut t < lim k := by
  cases k
  · exact nanCut32 t
  · exact nanCut64 t
theorem nan_conv (k : FloatKind) (x t : Nat) : isNan k ((Question.nanConv k x).cut t) = true ∧ (Question.nanConv k x).cut t < lim k := by
  cases k
  · exact nanCut32 t
  · exact nanCut64 t
theorem nan_minmax (k : FloatKind) (b : Bool) (x y t : Nat) : isNan k ((Question.nanMinMax k b x y).cut t) = true ∧ (Question.nanMinMax k b x y).cut t < lim k := by
  cases k
  · exact nanCut32 t
  · exact nanCut64 t
theorem forced_bits (k : FloatKind) (x y : Nat) : (Question.nanBits k x y).forced = false := by cases k <;> rfl
theorem forced_conv (k : FloatKind) (x : Nat) : (Question.nanConv k x).forced = false := by cases k <;> rfl
theorem forced_minmax (k : FloatKind) (b : Bool) (x y : Nat) : (Question.nanMinMax k b x y).forced = false := by cases k <;> rfl

/-- is it one of the four -/
def arith : BinOp → Bool
  | .add | .sub | .mul | .quo => true
  | _ => false

theorem run_float_bin {op : BinOp} (ho : arith op = true) (t : TypeId) (k : FloatKind) (x y : Nat) :
    ∃ r n, (binOp op t (.float k x) (.float k y)).run P w = .ok (.float k r) (w.drewN n) ∧ cn k r = fbin op k (cn k x) (cn k y) ∧ r < lim k := by
  unfold fbin
  rw [floatBits_cn]
  cases h : floatBits op k x y with
  | some r => exact ⟨r, 0, run_float_arith w op t k x y r h, by rw [cn_of_not (floatBits_not_nan h)]; rfl, floatBits_lt h⟩
  | none =>
    obtain ⟨hn, hl⟩ := nan_bits k x y (w.tape w.drawn (.nanBits k x y))
    refine ⟨_, 1, ?_, by rw [cn_of_nan hn]; rfl, hl⟩
    cases op <;> first | (cases ho; done) | (simp only [floatBits] at h; simp [binOp, Op.floatArith, h, forced_bits]; rfl)

/-- the comparisons -/
def fcmp (op : BinOp) (k : FloatKind) (a b : Nat) : Option Bool :=
  match op with
  | .eql => some (feq k a b)
  | .neq => some (!feq k a b)
  | .lss => some (flt k a b)
  | .leq => some (fle k a b)
  | .gtr => some (fgt k a b)
  | .geq => some (fge k a b)
  | _ => none

theorem fcmp_cn (op : BinOp) (k : FloatKind) (a b : Nat) : fcmp op k (cn k a) (cn k b) = fcmp op k a b := by
  cases op <;> simp [fcmp, feq, flt, fle, fgt, fge, order_cn]

theorem run_float_cmp {op : BinOp} {b : Bool} (t : TypeId) (k : FloatKind) (x y : Nat) (h : fcmp op k (cn k x) (cn k y) = some b) :
    (binOp op t (.float k x) (.float k y)).run P w = .ok (.bool b) w := by
  rw [fcmp_cn] at h
  cases op <;> simp only [fcmp] at h <;> first | (cases h; done) | (cases h; simp [binOp, Op.floatCmp, feq, flt, fle, fgt, fge, bne])

theorem run_float_neg (k : FloatKind) (x : Nat) (hx : x < lim k) : ∃ r, (Op.unary .neg (.float k x)).run P w = .ok (.float k r) w ∧ cn k r = fneg k (cn k x) ∧ r < lim k :=
  ⟨_, rfl, (cn_neg k x).symm, neg_lt hx⟩

theorem run_float_conv (src dst : TypeId) (s k : FloatKind) (x : Nat) (c : Nat) (hx : x < lim s) (hs : (P.underlying src).isSome = true) (hd : P.underlying dst = some (.float k)) (h : fconv s (cn s x) k = some c) :
    ∃ r n, (convert src dst (.float s x)).run P w = .ok (.float k r) (w.drewN n) ∧ cn k r = c ∧ r < lim k := by
  rw [fconv_cn] at h
  unfold fconv at h
  by_cases e : s = k
  · subst e
    rw [if_pos rfl] at h; cases h
    exact ⟨x, 0, run_convert_float_float w src dst s s x x hs hd (by simp [floatToFloatBits]), rfl, hx⟩
  · rw [if_neg e] at h
    cases hn : isNan s x
    · rw [hn] at h
      simp only [Bool.false_eq_true, if_false] at h
      have h' := h
      refine ⟨c, 0, run_convert_float_float w src dst s k x c hs hd h, ?_, ?_⟩
      · refine cn_of_not ?_
        unfold floatToFloatBits at h'
        rw [if_neg e] at h'
        split at h'
        · cases h'
        · cases h'; exact write_not_nan _ _ rfl
        · split at h'
          · cases h'
          · cases h'; exact write_not_nan _ _ rfl
      · unfold floatToFloatBits at h'
        rw [if_neg e] at h'
        split at h'
        · cases h'
        · cases h'; exact k.format.write_lt _
        · split at h'
          · cases h'
          · cases h'; exact k.format.write_lt _
    · rw [hn] at h; cases h
      obtain ⟨sg, t, hr⟩ := nan_read hn
      obtain ⟨hn', hl⟩ := nan_conv k x (w.tape w.drawn (.nanConv k x))
      refine ⟨_, 1, ?_, cn_of_nan hn', hl⟩
      obtain ⟨u, hs'⟩ := Option.isSome_iff_exists.1 hs
      have hdec : s.decode x = .nan sg t := hr
      cases u <;> simp [convert, run_underlying hs', run_underlying hd, Conv.floatToFloat, e, hdec, forced_conv] <;> rfl

/-- a float as an integer: what it is cut to, where that fits -/
def ftoi (s : FloatKind) (n : Nat) (k : IntKind) : Option Int := floatToIntVal s n k

theorem ftoi_cn (s : FloatKind) (n : Nat) (k : IntKind) : ftoi s (cn s n) k = ftoi s n k := by
  cases h : isNan s n
  · rw [cn_of_not h]
  · rw [cn_of_nan h]
    obtain ⟨sg, t, e⟩ := nan_read h
    obtain ⟨sg', t', e'⟩ := nan_read (isNan_nanOf s)
    have hd : s.decode n = .nan sg t := e
    have hd' : s.decode (nanOf s) = .nan sg' t' := e'
    unfold ftoi floatToIntVal
    rw [hd, hd']; rfl

theorem run_float_int (src dst : TypeId) (s : FloatKind) (k : IntKind) (b : Nat) (hs : (P.underlying src).isSome = true) (hd : P.underlying dst = some (.int k)) :
    ∃ m n, (convert src dst (.float s b)).run P w = .ok (.int k m) (w.drewN n) ∧ (∀ c, ftoi s (cn s b) k = some c → m = c) := by
  rw [ftoi_cn]
  cases h : ftoi s b k with
  | some c => exact ⟨c, 0, run_convert_float_int w src dst s k b c hs hd h, fun _ e => by cases e; rfl⟩
  | none =>
    obtain ⟨u, hs'⟩ := Option.isSome_iff_exists.1 hs
    have hq : (Question.floatToInt s b k).forced = false := rfl
    unfold ftoi floatToIntVal at h
    cases hi : (s.decode b).toInt .zero with
    | none =>
      refine ⟨k.wrap ((Question.floatToInt s b k).cut (w.tape w.drawn (.floatToInt s b k)) : Nat), 1, ?_, fun _ e => by cases e⟩
      cases u <;> simp [convert, run_underlying hs', run_underlying hd, Conv.floatToInt, hi, hq] <;> rfl
    | some m =>
      rw [hi] at h
      simp only [ite_eq_right_iff, reduceCtorEq, imp_false] at h
      refine ⟨k.wrap ((Question.floatToInt s b k).cut (w.tape w.drawn (.floatToInt s b k)) : Nat), 1, ?_, fun _ e => by cases e⟩
      cases u <;> simp [convert, run_underlying hs', run_underlying hd, Conv.floatToInt, hi, h, hq] <;> rfl
end
end Go.Cv

/- The operations on floats as plain functions on canonical words. -/
namespace Go.Cv

/-- the operations on floats, as variables: so that nothing looks into them -/
structure FOps where
  bin : BinOp → FloatKind → Nat → Nat → Nat
  cmp : BinOp → FloatKind → Nat → Nat → Bool
  neg : FloatKind → Nat → Nat
  wid : Nat → Nat
  nar : Nat → Nat
  narOk : Nat → Bool
  ofi : FloatKind → Int → Nat
  toi : FloatKind → Nat → IntKind → Int
  toiOk : FloatKind → Nat → IntKind → Bool
  abs : Nat → Nat
  floor : Nat → Nat
  trunc : Nat → Nat
  sqrt : Nat → Nat

/-- an integer's float -/
def fofi (k : FloatKind) (n : Int) : Nat := cn k (floatOfInt k n)
def fwid (n : Nat) : Nat := (fconv .f32 n .f64).getD 0
def fnar (n : Nat) : Nat := (fconv .f64 n .f32).getD 0
def fnarOk (n : Nat) : Bool := (fconv .f64 n .f32).isSome
def ftoiV (s : FloatKind) (n : Nat) (k : IntKind) : Int := (ftoi s n k).getD 0
def ftoiOk (s : FloatKind) (n : Nat) (k : IntKind) : Bool := (ftoi s n k).isSome

def fabs (n : Nat) : Nat := if isNan .f64 n then nanOf .f64 else n % 2 ^ 63
/-- the true ones -/
def R : FOps := { bin := fbin, cmp := fun op k a b => (fcmp op k a b).getD false, neg := fneg, wid := fwid, nar := fnar, narOk := fnarOk, ofi := fofi, toi := ftoiV, toiOk := ftoiOk, abs := fabs, floor := ffloor .down, trunc := ffloor .zero, sqrt := fsqrt }
end Go.Cv
