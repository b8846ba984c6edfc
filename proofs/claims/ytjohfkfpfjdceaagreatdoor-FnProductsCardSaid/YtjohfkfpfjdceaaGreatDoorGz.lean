/- Fz, Gk, Gw, Gx: merged by merge.py. -/
import Derived.Test.YtjohfkfpfjdceaaGreatDoorGa

/- Words that say the same number are the same; the size of a number. -/
namespace Go.Dv
open Go.Cv
open Ieee

theorem read_cases (f : Format) {a : Nat} {s : Bool} {m : Nat} {e : Int} (h : f.read a = .number s m e) :
    s = (a / f.signWeight % 2 == 1) ∧ ((a % f.signWeight < f.binade ∧ m = a % f.signWeight ∧ e = f.leastPlace) ∨
      (f.binade ≤ m ∧ m < 2 * f.binade ∧ ∃ d : Nat, e = f.leastPlace + d ∧ a % f.signWeight = d * f.binade + m)) := by
  unfold Format.read at h
  have hB : 0 < f.binade := Nat.two_pow_pos _
  simp only at h
  generalize hr : a % f.signWeight = r at *
  by_cases h1 : r < f.binade
  · rw [if_pos h1] at h
    cases h
    exact ⟨rfl, .inl ⟨h1, rfl, rfl⟩⟩
  · rw [if_neg h1] at h
    by_cases h2 : r < f.infRung
    · rw [if_pos h2] at h
      cases h
      have h3 : r % f.binade < f.binade := Nat.mod_lt _ hB
      refine ⟨rfl, .inr ⟨by omega, by omega, r / f.binade - 1, rfl, ?_⟩⟩
      have h4 : 1 ≤ r / f.binade := (Nat.le_div_iff_mul_le hB).2 (by omega)
      have h5 : r / f.binade * f.binade + r % f.binade = r := by rw [Nat.mul_comm]; exact Nat.div_add_mod r f.binade
      have h6 : r / f.binade * f.binade = (r / f.binade - 1) * f.binade + f.binade := by
        rw [← Nat.succ_mul]; congr 1; omega
      omega
    · rw [if_neg h2] at h
      by_cases h3 : r = f.infRung
      · rw [if_pos h3] at h; cases h
      · rw [if_neg h3] at h; cases h

theorem mg_inj {m m' : Nat} {e e' : Int} {B : Nat} (h : mg m e = mg m' e') (hlt : e < e') (h1 : m < 2 * B) (h2 : B ≤ m') (_ : 0 < B) : False := by
  rw [mg_shift (show e ≤ e' by omega) (m := m'), mg_eq] at h
  have hp : 2 ^ 1 ≤ 2 ^ (e' - e).toNat := Nat.pow_le_pow_right (by decide) (by omega)
  have := Nat.mul_le_mul h2 hp
  omega

theorem half_word {S a : Nat} (h : a < 2 * S) : a / S % 2 = a / S := by
  exact Nat.mod_eq_of_lt (Nat.div_lt_of_lt_mul (by omega))

/-- a word is told by its sign and its number -/
theorem word_inj (f : Format) {a b : Nat} (ha : a < 2 * f.signWeight) (hb : b < 2 * f.signWeight) {s : Bool} {m m' : Nat} {e e' : Int} (h : f.read a = .number s m e) (h' : f.read b = .number s m' e') (hv : mg m e = mg m' e') : a = b := by
  obtain ⟨s1, c1⟩ := read_cases f h
  obtain ⟨s2, c2⟩ := read_cases f h'
  have hB : 0 < f.binade := Nat.two_pow_pos _
  have hS : 0 < f.signWeight := Nat.two_pow_pos _
  have hr : a % f.signWeight = b % f.signWeight := by
    rcases c1 with ⟨x1, x2, x3⟩ | ⟨x1, x2, d, x3, x4⟩ <;> rcases c2 with ⟨y1, y2, y3⟩ | ⟨y1, y2, d', y3, y4⟩
    · rw [x2, x3, y2, y3, mg_eq] at hv; exact hv
    · rcases Int.lt_or_le e e' with hl | hl
      · exact (mg_inj hv hl (by omega) y1 hB).elim
      · have : d' = 0 := by omega
        subst this
        have he : e = e' := by omega
        subst he
        rw [mg_eq] at hv
        omega
    · rcases Int.lt_or_le e' e with hl | hl
      · exact (mg_inj hv.symm hl (by omega) x1 hB).elim
      · have : d = 0 := by omega
        subst this
        have he : e = e' := by omega
        subst he
        rw [mg_eq] at hv
        omega
    · rcases Int.lt_or_le e e' with hl | hl
      · exact (mg_inj hv hl x2 y1 hB).elim
      · rcases Int.lt_or_le e' e with hl' | hl'
        · exact (mg_inj hv.symm hl' y2 x1 hB).elim
        · have he : e = e' := by omega
          subst he
          rw [mg_eq] at hv
          have : d = d' := by omega
          subst this
          omega
  have hq : a / f.signWeight = b / f.signWeight := by
    have e1 := half_word ha
    have e2 := half_word hb
    have l1 : a / f.signWeight < 2 := Nat.div_lt_of_lt_mul (by omega)
    have l2 : b / f.signWeight < 2 := Nat.div_lt_of_lt_mul (by omega)
    rw [e1] at s1; rw [e2] at s2
    rw [s1] at s2
    have : (a / f.signWeight = 1) ↔ (b / f.signWeight = 1) := by
      constructor
      · intro h; rw [h] at s2; exact beq_iff_eq.1 s2.symm
      · intro h; rw [h] at s2; exact beq_iff_eq.1 s2
    omega
  rw [← Nat.div_add_mod a f.signWeight, ← Nat.div_add_mod b f.signWeight, hq, hr]

theorem inf_word (f : Format) {a : Nat} (ha : a < 2 * f.signWeight) {s : Bool} (h : f.read a = .infinity s) : a = f.word s f.infRung := by
  unfold Format.read at h
  simp only at h
  have h0 := half_word ha
  have hd := Nat.div_add_mod a f.signWeight
  have hl : a / f.signWeight < 2 := Nat.div_lt_of_lt_mul (by omega)
  generalize hr : a % f.signWeight = r at *
  split at h
  · cases h
  · split at h
    · cases h
    · split at h
      · next h3 =>
        cases h
        rw [h0]
        unfold Format.word
        by_cases hx : a / f.signWeight = 1
        · rw [hx] at hd ⊢; simp only [beq_self_eq_true, if_true]; omega
        · have hz : a / f.signWeight = 0 := by omega
          rw [hz] at hd ⊢
          simp only [Nat.mul_zero] at hd
          rw [if_neg (by decide)]
          omega
      · cases h

/-- a word as it comes out of an operation -/
def Cw (a : Nat) : Prop := a < 4294967296 ∧ (isNan .f32 a = true → a = nanOf .f32)

theorem lim32 : lim .f32 = 4294967296 := by decide
theorem sign32 : 2 * FloatKind.f32.format.signWeight = 4294967296 := by decide

theorem cw_bin (op : BinOp) (a b : Nat) : Cw (R.bin op .f32 a b) := by
  show Cw ((floatBits op .f32 a b).getD (nanOf .f32))
  cases h : floatBits op .f32 a b with
  | none => exact ⟨by decide, fun _ => rfl⟩
  | some r => exact ⟨by have := floatBits_lt h; rw [lim32] at this; exact this, fun hn => absurd (show isNan .f32 r = true from hn) (by rw [floatBits_not_nan h]; decide)⟩

theorem cw_write (d : Datum) (h : d.isNaN = false) : Cw (FloatKind.f32.format.write d) :=
  ⟨FloatKind.f32.format.write_lt d, fun hn => absurd hn (by rw [show isNan .f32 (FloatKind.f32.format.write d) = false from write_not_nan _ _ h]; decide)⟩

theorem cw_nar (a : Nat) : Cw (R.nar a) := by
  show Cw ((fconv .f64 a .f32).getD 0)
  have h0 : Cw 0 := ⟨by decide, fun h => by cases h⟩
  unfold fconv floatToFloatBits FloatKind.decode FloatKind.encode
  cases hn : isNan .f64 a
  · rw [if_neg (by decide), if_neg (by decide), if_neg (by decide)]
    cases hr : FloatKind.f64.format.read a with
    | nan s t => unfold isNan at hn; rw [hr] at hn; cases hn
    | infinity s => exact cw_write (.infinity s) rfl
    | number s m e =>
      have hc : Cw (FloatKind.f32.format.write (.number s m e)) := cw_write (.number s m e) rfl
      simp only
      split
      · exact h0
      · exact hc
  · have : Cw (nanOf .f32) := ⟨by decide, fun _ => rfl⟩
    exact this

/-- what is narrowed of a word that is a float32's number, is that number -/
theorem nar_exact {x : Nat} {s : Bool} {m m' : Nat} {e e' : Int} (hx : FloatKind.f64.format.read x = .number s m' e') (hm : m < 2 ^ 24) (he : -149 ≤ e) (ht : mg m e < topOf FloatKind.f32.format) (hv : mg m' e' = mg m e) :
    ∃ m1 e1, FloatKind.f32.format.read (R.nar x) = .number s m1 e1 ∧ mg m1 e1 = mg m e := by
  obtain ⟨m1, e1, h1, h2⟩ := nearest_exact FloatKind.f32.format (exp3 .f32) s m' e' m e (by rw [B32]; omega) (by rw [least_eq]; exact he) ht hv
  refine ⟨m1, e1, ?_, h2⟩
  rw [← h1]
  have hn : isNan .f64 x = false := nm_not_nan ⟨_, _, _, hx⟩
  have : R.nar x = FloatKind.f32.format.nearest s m' e' := by
    show (fconv .f64 x .f32).getD 0 = _
    unfold fconv floatToFloatBits FloatKind.decode FloatKind.encode
    rw [hn, hx]
    simp only [Format.write, h1, Datum.isInfinity]
    rfl
  rw [this]

end Go.Dv

/- Bounds of both kinds of floats; what is the same number in other digits; halves. -/
namespace Go.Dv
open Go.Cv
open Ieee

/-- what fits, narrowed -/
theorem nar_form {x : Nat} {s : Bool} {m : Nat} {e : Int} (hx : FloatKind.f64.format.read x = .number s m e) (h : R.narOk x = true) : R.nar x = FloatKind.f32.format.nearest s m e := by
  have hn : isNan .f64 x = false := nm_not_nan ⟨_, _, _, hx⟩
  have key : fconv .f64 x .f32 = bif (FloatKind.f32.format.read (FloatKind.f32.format.nearest s m e)).isInfinity then none else some (FloatKind.f32.format.nearest s m e) := by
    unfold fconv floatToFloatBits FloatKind.decode FloatKind.encode
    rw [hn, hx]
    cases hc : (FloatKind.f32.format.read (FloatKind.f32.format.nearest s m e)).isInfinity <;> simp [Format.write, hc]
  have h : (fconv .f64 x .f32).isSome = true := h
  show (fconv .f64 x .f32).getD 0 = _
  rw [key] at h ⊢
  cases hc : (FloatKind.f32.format.read (FloatKind.f32.format.nearest s m e)).isInfinity
  · rfl
  · rw [hc] at h; cases h
/-! ### products in both orders -/
/-! ### the same number in other digits -/
/-! ### a difference against a number of few digits -/
end Go.Dv

/- Rounding keeps the order against every word; the cosine is not small between -0.24 and 0.24; an east that is wrapped is one. -/
namespace Go.Dv
open Go.Cv
open Ieee

theorem read_fits (k : FloatKind) {a : Nat} {s : Bool} {m : Nat} {e : Int} (h : k.format.read a = .number s m e) : m ≤ 2 * k.format.binade ∧ loP k ≤ e ∧ mg m e < topOf k.format := by
  have hB : 0 < k.format.binade := Nat.two_pow_pos _
  have hlt : a % k.format.signWeight < k.format.infRung := by
    have h' := h
    unfold Format.read at h'
    simp only at h'
    have hb : k.format.binade ≤ k.format.infRung := by cases k <;> decide
    split at h'
    · rename_i h1; omega
    · split at h'
      · rename_i h2; exact h2
      · split at h' <;> cases h'
  obtain ⟨_, c⟩ := read_cases k.format h
  have hl := least_eq k
  have h3 := exp3 k
  have hr : k.format.infRung = (2 ^ k.format.exponentBits - 1) * k.format.binade := rfl
  have key : ∀ d : Nat, d * k.format.binade + m < k.format.infRung → k.format.binade ≤ m → m < 2 * k.format.binade → mg m (k.format.leastPlace + d) < topOf k.format := by
    intro d h1 h2 h6
    have h4 : (d + 1) * k.format.binade < (2 ^ k.format.exponentBits - 1) * k.format.binade := by rw [Nat.add_mul, Nat.one_mul, ← hr]; omega
    have h5 : d + 1 < 2 ^ k.format.exponentBits - 1 := Nat.lt_of_mul_lt_mul_right h4
    have h8 : k.format.leastPlace + (d : Int) + 1 ≤ k.format.leastPlace + ((2 ^ k.format.exponentBits - 2 : Nat) : Int) := by
      generalize 2 ^ k.format.exponentBits = Z at h5 ⊢
      omega
    have h9 : mg (2 * k.format.binade) (k.format.leastPlace + d) ≤ topOf k.format := by
      rw [mg_double]; exact mg_mono h8
    refine Rat.not_le.1 fun hc => ?_
    have := mg_le.1 (Rat.le_trans h9 hc)
    omega
  rcases c with ⟨x1, x2, x3⟩ | ⟨x1, x2, d, x3, x4⟩
  · refine ⟨by omega, by omega, ?_⟩
    refine top_of (by omega) ?_
    have : loP k + 1 ≤ topE k := by cases k <;> decide
    rw [x3]; omega
  · refine ⟨by omega, by omega, ?_⟩
    rw [x3]; exact key d (by omega) x1 x2

/-- the word n is v, rounded: no word lies between -/
structure Rc (k : FloatKind) (v : Rat) (n : Nat) : Prop where
  le : ∀ c, Nm k c → Nm k n → v ≤ fv k c → fv k n ≤ fv k c
  ge : ∀ c, Nm k c → Nm k n → fv k c ≤ v → fv k c ≤ fv k n

/-! ### the cosine from below -/
end Go.Dv

/- An east that is wrapped lies between -0.5 and 0.5. -/
namespace Go.Dv
open Go.Cv
open Ieee

end Go.Dv
