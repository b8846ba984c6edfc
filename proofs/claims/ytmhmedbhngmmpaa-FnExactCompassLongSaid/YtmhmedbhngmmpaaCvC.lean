/- What the model's operations on floats give, up to draws and the bits of a NaN. -/
import Derived.Test.YtmhmedbhngmmpaaCvA
namespace Go.Cv
open Go.RowKit


/-! ### a float32 is a float64 -/

theorem cut_zero (way : Ieee.Toward) (neg : Bool) (n : Nat) : way.cut neg n 0 = n := by
  have h1 : (1 : Nat) <<< min 0 (n.log2 + 2) = 1 := by simp
  unfold Ieee.Toward.cut
  simp only [h1, Nat.div_one, Nat.mod_one]
  cases way <;> simp

theorem read_single (n : Nat) : (∃ s, FloatKind.f32.format.read n = .infinity s) ∨ (∃ s t, FloatKind.f32.format.read n = .nan s t) ∨ ∃ s m e, FloatKind.f32.format.read n = .number s m e ∧ m < 2 ^ 24 ∧ -149 ≤ e ∧ e ≤ 104 := by
  have e : FloatKind.f32.format = ⟨8, 23⟩ := rfl
  rw [e]
  unfold Ieee.Format.read
  have eS : Ieee.Format.signWeight ⟨8, 23⟩ = 2147483648 := by decide
  have eB : Ieee.Format.binade ⟨8, 23⟩ = 8388608 := by decide
  have eI : Ieee.Format.infRung ⟨8, 23⟩ = 2139095040 := by decide
  have eL : Ieee.Format.leastPlace ⟨8, 23⟩ = -149 := by decide
  simp only [eS, eB, eI, eL]
  generalize n % 2147483648 = r
  split
  · exact .inr (.inr ⟨_, _, _, rfl, by omega, by omega, by omega⟩)
  · split
    · refine .inr (.inr ⟨_, _, _, rfl, by omega, by omega, ?_⟩)
      have : r / 8388608 ≤ 254 := by omega
      omega
    · split
      · exact .inl ⟨_, rfl⟩
      · exact .inr (.inl ⟨_, _, rfl⟩)

theorem log2_lt {m k : Nat} (hm : m ≠ 0) (h : m < 2 ^ k) : m.log2 < k := (Nat.log2_lt hm).2 h

theorem nearest_wide (s : Bool) (m : Nat) (e : Int) (hm : m ≠ 0) (h1 : m < 2 ^ 24) (h2 : -149 ≤ e) (h3 : e ≤ 104) :
    FloatKind.f64.format.nearest s m e = FloatKind.f64.format.word s ((e + m.log2 + 1022).toNat * 4503599627370496 + m <<< (52 - m.log2)) ∧
    (e + m.log2 + 1022).toNat * 4503599627370496 + m <<< (52 - m.log2) < 9218868437227405312 := by
  have ef : FloatKind.f64.format = ⟨11, 52⟩ := rfl
  rw [ef]
  have eB : Ieee.Format.binade ⟨11, 52⟩ = 4503599627370496 := by decide
  have eI : Ieee.Format.infRung ⟨11, 52⟩ = 9218868437227405312 := by decide
  have eL : Ieee.Format.leastPlace ⟨11, 52⟩ = -1074 := by decide
  have hl : m.log2 < 24 := log2_lt hm h1
  have hk : m <<< (52 - m.log2) < 9007199254740992 := by
    rw [Nat.shiftLeft_eq]
    have h4 : m < 2 ^ (m.log2 + 1) := Nat.lt_log2_self
    have h5 : m * 2 ^ (52 - m.log2) < 2 ^ (m.log2 + 1) * 2 ^ (52 - m.log2) := Nat.mul_lt_mul_of_pos_right h4 (Nat.two_pow_pos _)
    have h6 : m.log2 + 1 + (52 - m.log2) = 53 := by omega
    have h7 : (2 : Nat) ^ 53 = 9007199254740992 := by decide
    rw [← Nat.pow_add, h6, h7] at h5
    exact h5
  have hb : (e + m.log2 + 1022).toNat * 4503599627370496 + m <<< (52 - m.log2) < 9218868437227405312 := by
    have : (e + m.log2 + 1022).toNat ≤ 1149 := by omega
    omega
  refine ⟨?_, hb⟩
  unfold Ieee.Format.nearest
  rw [if_neg hm]
  simp only [eB, eI, eL]
  have e1 : max (e + (m.log2 : Int) - (52 : Nat)) (-1074) = e + m.log2 - 52 := by omega
  rw [e1]
  have e2 : (e + (m.log2 : Int) - 52 - e).toNat = 0 := by omega
  have e3 : (e - (e + (m.log2 : Int) - 52)).toNat = 52 - m.log2 := by omega
  have e4 : (e + (m.log2 : Int) - 52 - (-1074)).toNat = (e + m.log2 + 1022).toNat := by omega
  rw [e2, e3, e4, cut_zero, Nat.min_eq_left (Nat.le_of_lt hb)]

theorem wid_ok (n : Nat) (hn : isNan .f32 n = false) :
    (match FloatKind.f32.decode n with
      | .nan _ _ => none
      | .infinity s => some (FloatKind.f64.encode (.infinity s))
      | .number s m e => if (FloatKind.f64.decode (FloatKind.f64.encode (.number s m e))).isInfinity then none else some (FloatKind.f64.encode (.number s m e)) : Option Nat).isSome = true := by
  have hd : FloatKind.f32.decode n = FloatKind.f32.format.read n := rfl
  rw [hd]
  rcases read_single n with ⟨s, h⟩ | ⟨s, t, h⟩ | ⟨s, m, e, h, h1, h2, h3⟩
  · rw [h]; rfl
  · unfold isNan at hn; rw [h] at hn; cases hn
  · rw [h]
    simp only
    have hfin : (FloatKind.f64.decode (FloatKind.f64.encode (.number s m e))).isInfinity = false := by
      show (FloatKind.f64.format.read (FloatKind.f64.format.nearest s m e)).isInfinity = false
      have key : ∀ r, r < 9218868437227405312 → (FloatKind.f64.format.read (FloatKind.f64.format.word s r)).isInfinity = false := fun r hr => by
        have hw : FloatKind.f64.format.word s r % FloatKind.f64.format.signWeight = r := word_rung _ s r (by
          have : FloatKind.f64.format.signWeight = 9223372036854775808 := by decide
          omega)
        unfold Ieee.Format.read
        simp only [hw]
        have eB : FloatKind.f64.format.binade = 4503599627370496 := by decide
        have eI : FloatKind.f64.format.infRung = 9218868437227405312 := by decide
        rw [eB, eI]
        split
        · rfl
        · first | rfl | (rw [if_pos hr]; rfl)
      by_cases hm : m = 0
      · subst hm
        have : FloatKind.f64.format.nearest s 0 e = FloatKind.f64.format.word s 0 := by unfold Ieee.Format.nearest; rw [if_pos rfl]
        rw [this]; exact key 0 (by decide)
      · obtain ⟨h4, h5⟩ := nearest_wide s m e hm h1 h2 h3
        rw [h4]; exact key _ h5
    rw [hfin]; rfl

section
variable {P : Program} (w : World)

theorem nan_bits (k : FloatKind) (x y t : Nat) : isNan k ((Question.nanBits k x y).cut t) = true ∧ (Question.nanBits k x y).cut t < lim k := by
  cases k
  · exact nanCut32 t
  · exact nanCut64 t
theorem nan_conv (k : FloatKind) (x t : Nat) : isNan k ((Question.nanConv k x).cut t) = true ∧ (Question.nanConv k x).cut t < lim k := by
  cases k
  · exact nanCut32 t
  · exact nanCut64 t
theorem nan_minmax (k : FloatKind) (b : Bool) (x y t : Nat) : isNan k ((Question.nanMinMax k b x y).cut t) = true ∧ (Question.nanMinMax k b x y).cut t < lim k := by
  cases k
  · exact nanCut32 t
  · exact nanCut64 t
theorem forced_bits (k : FloatKind) (x y : Nat) : (Question.nanBits k x y).forced = false := by cases k <;> rfl
theorem forced_conv (k : FloatKind) (x : Nat) : (Question.nanConv k x).forced = false := by cases k <;> rfl
theorem forced_minmax (k : FloatKind) (b : Bool) (x y : Nat) : (Question.nanMinMax k b x y).forced = false := by cases k <;> rfl

/-- is it one of the four -/
def arith : BinOp → Bool
  | .add | .sub | .mul | .quo => true
  | _ => false

theorem run_float_bin {op : BinOp} (ho : arith op = true) (t : TypeId) (k : FloatKind) (x y : Nat) :
    ∃ r n, (binOp op t (.float k x) (.float k y)).run P w = .ok (.float k r) (w.drewN n) ∧ cn k r = fbin op k (cn k x) (cn k y) ∧ r < lim k := by
  unfold fbin
  rw [floatBits_cn]
  cases h : floatBits op k x y with
  | some r => exact ⟨r, 0, run_float_arith w op t k x y r h, by rw [cn_of_not (floatBits_not_nan h)]; rfl, floatBits_lt h⟩
  | none =>
    obtain ⟨hn, hl⟩ := nan_bits k x y (w.tape w.drawn (.nanBits k x y))
    refine ⟨_, 1, ?_, by rw [cn_of_nan hn]; rfl, hl⟩
    cases op <;> first | (cases ho; done) | (simp only [floatBits] at h; simp [binOp, Op.floatArith, h, forced_bits]; rfl)

/-- the comparisons -/
def fcmp (op : BinOp) (k : FloatKind) (a b : Nat) : Option Bool :=
  match op with
  | .eql => some (feq k a b)
  | .neq => some (!feq k a b)
  | .lss => some (flt k a b)
  | .leq => some (fle k a b)
  | .gtr => some (fgt k a b)
  | .geq => some (fge k a b)
  | _ => none

theorem fcmp_cn (op : BinOp) (k : FloatKind) (a b : Nat) : fcmp op k (cn k a) (cn k b) = fcmp op k a b := by
  cases op <;> simp [fcmp, feq, flt, fle, fgt, fge, order_cn]

theorem run_float_cmp {op : BinOp} {b : Bool} (t : TypeId) (k : FloatKind) (x y : Nat) (h : fcmp op k (cn k x) (cn k y) = some b) :
    (binOp op t (.float k x) (.float k y)).run P w = .ok (.bool b) w := by
  rw [fcmp_cn] at h
  cases op <;> simp only [fcmp] at h <;> first | (cases h; done) | (cases h; simp [binOp, Op.floatCmp, feq, flt, fle, fgt, fge, bne])

theorem run_float_neg (k : FloatKind) (x : Nat) (hx : x < lim k) : ∃ r, (Op.unary .neg (.float k x)).run P w = .ok (.float k r) w ∧ cn k r = fneg k (cn k x) ∧ r < lim k :=
  ⟨_, rfl, (cn_neg k x).symm, neg_lt hx⟩

theorem run_float_conv (src dst : TypeId) (s k : FloatKind) (x : Nat) (c : Nat) (hx : x < lim s) (hs : (P.underlying src).isSome = true) (hd : P.underlying dst = some (.float k)) (h : fconv s (cn s x) k = some c) :
    ∃ r n, (convert src dst (.float s x)).run P w = .ok (.float k r) (w.drewN n) ∧ cn k r = c ∧ r < lim k := by
  rw [fconv_cn] at h
  unfold fconv at h
  by_cases e : s = k
  · subst e
    rw [if_pos rfl] at h; cases h
    exact ⟨x, 0, run_convert_float_float w src dst s s x x hs hd (by simp [floatToFloatBits]), rfl, hx⟩
  · rw [if_neg e] at h
    cases hn : isNan s x
    · rw [hn] at h
      simp only [Bool.false_eq_true, if_false] at h
      have h' := h
      refine ⟨c, 0, run_convert_float_float w src dst s k x c hs hd h, ?_, ?_⟩
      · refine cn_of_not ?_
        unfold floatToFloatBits at h'
        rw [if_neg e] at h'
        split at h'
        · cases h'
        · cases h'; exact write_not_nan _ _ rfl
        · split at h'
          · cases h'
          · cases h'; exact write_not_nan _ _ rfl
      · unfold floatToFloatBits at h'
        rw [if_neg e] at h'
        split at h'
        · cases h'
        · cases h'; exact k.format.write_lt _
        · split at h'
          · cases h'
          · cases h'; exact k.format.write_lt _
    · rw [hn] at h; cases h
      obtain ⟨sg, t, hr⟩ := nan_read hn
      obtain ⟨hn', hl⟩ := nan_conv k x (w.tape w.drawn (.nanConv k x))
      refine ⟨_, 1, ?_, cn_of_nan hn', hl⟩
      obtain ⟨u, hs'⟩ := Option.isSome_iff_exists.1 hs
      have hdec : s.decode x = .nan sg t := hr
      cases u <;> simp [convert, run_underlying hs', run_underlying hd, Conv.floatToFloat, e, hdec, forced_conv] <;> rfl

/-- a float as an integer: what it is cut to, where that fits -/
def ftoi (s : FloatKind) (n : Nat) (k : IntKind) : Option Int := floatToIntVal s n k

theorem ftoi_cn (s : FloatKind) (n : Nat) (k : IntKind) : ftoi s (cn s n) k = ftoi s n k := by
  cases h : isNan s n
  · rw [cn_of_not h]
  · rw [cn_of_nan h]
    obtain ⟨sg, t, e⟩ := nan_read h
    obtain ⟨sg', t', e'⟩ := nan_read (isNan_nanOf s)
    have hd : s.decode n = .nan sg t := e
    have hd' : s.decode (nanOf s) = .nan sg' t' := e'
    unfold ftoi floatToIntVal
    rw [hd, hd']; rfl

theorem run_float_int (src dst : TypeId) (s : FloatKind) (k : IntKind) (b : Nat) (hs : (P.underlying src).isSome = true) (hd : P.underlying dst = some (.int k)) :
    ∃ m n, (convert src dst (.float s b)).run P w = .ok (.int k m) (w.drewN n) ∧ (∀ c, ftoi s (cn s b) k = some c → m = c) := by
  rw [ftoi_cn]
  cases h : ftoi s b k with
  | some c => exact ⟨c, 0, run_convert_float_int w src dst s k b c hs hd h, fun _ e => by cases e; rfl⟩
  | none =>
    obtain ⟨u, hs'⟩ := Option.isSome_iff_exists.1 hs
    have hq : (Question.floatToInt s b k).forced = false := rfl
    unfold ftoi floatToIntVal at h
    cases hi : (s.decode b).toInt .zero with
    | none =>
      refine ⟨k.wrap ((Question.floatToInt s b k).cut (w.tape w.drawn (.floatToInt s b k)) : Nat), 1, ?_, fun _ e => by cases e⟩
      cases u <;> simp [convert, run_underlying hs', run_underlying hd, Conv.floatToInt, hi, hq] <;> rfl
    | some m =>
      rw [hi] at h
      simp only [ite_eq_right_iff, reduceCtorEq, imp_false] at h
      refine ⟨k.wrap ((Question.floatToInt s b k).cut (w.tape w.drawn (.floatToInt s b k)) : Nat), 1, ?_, fun _ e => by cases e⟩
      cases u <;> simp [convert, run_underlying hs', run_underlying hd, Conv.floatToInt, hi, h, hq] <;> rfl
end
end Go.Cv
