/- Fz, Gk, Gw, Gx: merged by merge.py. -/
import Derived.Test.YtbgpobiaaebbeaaGreatGa
import Derived.Test.YtbgpobiaaebbeaaGreatNc
import Derived.Test.YtbgpobiaaebbeaaGreatLw

/- Words that say the same number are the same; the size of a number. -/
namespace Go.Dv
open Go.Cv
open Ieee

theorem read_cases (f : Format) {a : Nat} {s : Bool} {m : Nat} {e : Int} (h : f.read a = .number s m e) :
    s = (a / f.signWeight % 2 == 1) ∧ ((a % f.signWeight < f.binade ∧ m = a % f.signWeight ∧ e = f.leastPlace) ∨
      (f.binade ≤ m ∧ m < 2 * f.binade ∧ ∃ d : Nat, e = f.leastPlace + d ∧ a % f.signWeight = d * f.binade + m)) := by
  unfold Format.read at h
  have hB : 0 < f.binade := Nat.two_pow_pos _
  simp only at h
  generalize hr : a % f.signWeight = r at *
  by_cases h1 : r < f.binade
  · rw [if_pos h1] at h
    cases h
    exact ⟨rfl, .inl ⟨h1, rfl, rfl⟩⟩
  · rw [if_neg h1] at h
    by_cases h2 : r < f.infRung
    · rw [if_pos h2] at h
      cases h
      have h3 : r % f.binade < f.binade := Nat.mod_lt _ hB
      refine ⟨rfl, .inr ⟨by omega, by omega, r / f.binade - 1, rfl, ?_⟩⟩
      have h4 : 1 ≤ r / f.binade := (Nat.le_div_iff_mul_le hB).2 (by omega)
      have h5 : r / f.binade * f.binade + r % f.binade = r := by rw [Nat.mul_comm]; exact Nat.div_add_mod r f.binade
      have h6 : r / f.binade * f.binade = (r / f.binade - 1) * f.binade + f.binade := by
        rw [← Nat.succ_mul]; congr 1; omega
      omega
    · rw [if_neg h2] at h
      by_cases h3 : r = f.infRung
      · rw [if_pos h3] at h; cases h
      · rw [if_neg h3] at h; cases h

theorem mg_inj {m m' : Nat} {e e' : Int} {B : Nat} (h : mg m e = mg m' e') (hlt : e < e') (h1 : m < 2 * B) (h2 : B ≤ m') (_ : 0 < B) : False := by
  rw [mg_shift (show e ≤ e' by omega) (m := m'), mg_eq] at h
  have hp : 2 ^ 1 ≤ 2 ^ (e' - e).toNat := Nat.pow_le_pow_right (by decide) (by omega)
  have := Nat.mul_le_mul h2 hp
  omega

theorem half_word {S a : Nat} (h : a < 2 * S) : a / S % 2 = a / S := by
  exact Nat.mod_eq_of_lt (Nat.div_lt_of_lt_mul (by omega))

/-- a word is told by its sign and its number -/
theorem word_inj (f : Format) {a b : Nat} (ha : a < 2 * f.signWeight) (hb : b < 2 * f.signWeight) {s : Bool} {m m' : Nat} {e e' : Int} (h : f.read a = .number s m e) (h' : f.read b = .number s m' e') (hv : mg m e = mg m' e') : a = b := by
  obtain ⟨s1, c1⟩ := read_cases f h
  obtain ⟨s2, c2⟩ := read_cases f h'
  have hB : 0 < f.binade := Nat.two_pow_pos _
  have hS : 0 < f.signWeight := Nat.two_pow_pos _
  have hr : a % f.signWeight = b % f.signWeight := by
    rcases c1 with ⟨x1, x2, x3⟩ | ⟨x1, x2, d, x3, x4⟩ <;> rcases c2 with ⟨y1, y2, y3⟩ | ⟨y1, y2, d', y3, y4⟩
    · rw [x2, x3, y2, y3, mg_eq] at hv; exact hv
    · rcases Int.lt_or_le e e' with hl | hl
      · exact (mg_inj hv hl (by omega) y1 hB).elim
      · have : d' = 0 := by omega
        subst this
        have he : e = e' := by omega
        subst he
        rw [mg_eq] at hv
        omega
    · rcases Int.lt_or_le e' e with hl | hl
      · exact (mg_inj hv.symm hl (by omega) x1 hB).elim
      · have : d = 0 := by omega
        subst this
        have he : e = e' := by omega
        subst he
        rw [mg_eq] at hv
        omega
    · rcases Int.lt_or_le e e' with hl | hl
      · exact (mg_inj hv hl x2 y1 hB).elim
      · rcases Int.lt_or_le e' e with hl' | hl'
        · exact (mg_inj hv.symm hl' y2 x1 hB).elim
        · have he : e = e' := by omega
          subst he
          rw [mg_eq] at hv
          have : d = d' := by omega
          subst this
          omega
  have hq : a / f.signWeight = b / f.signWeight := by
    have e1 := half_word ha
    have e2 := half_word hb
    have l1 : a / f.signWeight < 2 := Nat.div_lt_of_lt_mul (by omega)
    have l2 : b / f.signWeight < 2 := Nat.div_lt_of_lt_mul (by omega)
    rw [e1] at s1; rw [e2] at s2
    rw [s1] at s2
    have : (a / f.signWeight = 1) ↔ (b / f.signWeight = 1) := by
      constructor
      · intro h; rw [h] at s2; exact beq_iff_eq.1 s2.symm
      · intro h; rw [h] at s2; exact beq_iff_eq.1 s2
    omega
  rw [← Nat.div_add_mod a f.signWeight, ← Nat.div_add_mod b f.signWeight, hq, hr]

theorem inf_word (f : Format) {a : Nat} (ha : a < 2 * f.signWeight) {s : Bool} (h : f.read a = .infinity s) : a = f.word s f.infRung := by
  unfold Format.read at h
  simp only at h
  have h0 := half_word ha
  have hd := Nat.div_add_mod a f.signWeight
  have hl : a / f.signWeight < 2 := Nat.div_lt_of_lt_mul (by omega)
  generalize hr : a % f.signWeight = r at *
  split at h
  · cases h
  · split at h
    · cases h
    · split at h
      · next h3 =>
        cases h
        rw [h0]
        unfold Format.word
        by_cases hx : a / f.signWeight = 1
        · rw [hx] at hd ⊢; simp only [beq_self_eq_true, if_true]; omega
        · have hz : a / f.signWeight = 0 := by omega
          rw [hz] at hd ⊢
          simp only [Nat.mul_zero] at hd
          rw [if_neg (by decide)]
          omega
      · cases h

/-- a word as it comes out of an operation -/
def Cw (a : Nat) : Prop := a < 4294967296 ∧ (isNan .f32 a = true → a = nanOf .f32)

theorem lim32 : lim .f32 = 4294967296 := by decide
theorem sign32 : 2 * FloatKind.f32.format.signWeight = 4294967296 := by decide

theorem cw_bin (op : BinOp) (a b : Nat) : Cw (R.bin op .f32 a b) := by
  show Cw ((floatBits op .f32 a b).getD (nanOf .f32))
  cases h : floatBits op .f32 a b with
  | none => exact ⟨by decide, fun _ => rfl⟩
  | some r => exact ⟨by have := floatBits_lt h; rw [lim32] at this; exact this, fun hn => absurd (show isNan .f32 r = true from hn) (by rw [floatBits_not_nan h]; decide)⟩

theorem cw_write (d : Datum) (h : d.isNaN = false) : Cw (FloatKind.f32.format.write d) :=
  ⟨FloatKind.f32.format.write_lt d, fun hn => absurd hn (by rw [show isNan .f32 (FloatKind.f32.format.write d) = false from write_not_nan _ _ h]; decide)⟩

theorem cw_nar (a : Nat) : Cw (R.nar a) := by
  show Cw ((fconv .f64 a .f32).getD 0)
  have h0 : Cw 0 := ⟨by decide, fun h => by cases h⟩
  unfold fconv floatToFloatBits FloatKind.decode FloatKind.encode
  cases hn : isNan .f64 a
  · rw [if_neg (by decide), if_neg (by decide), if_neg (by decide)]
    cases hr : FloatKind.f64.format.read a with
    | nan s t => unfold isNan at hn; rw [hr] at hn; cases hn
    | infinity s => exact cw_write (.infinity s) rfl
    | number s m e =>
      have hc : Cw (FloatKind.f32.format.write (.number s m e)) := cw_write (.number s m e) rfl
      simp only
      split
      · exact h0
      · exact hc
  · have : Cw (nanOf .f32) := ⟨by decide, fun _ => rfl⟩
    exact this

/-- what is narrowed of a word that is a float32's number, is that number -/
theorem nar_exact {x : Nat} {s : Bool} {m m' : Nat} {e e' : Int} (hx : FloatKind.f64.format.read x = .number s m' e') (hm : m < 2 ^ 24) (he : -149 ≤ e) (ht : mg m e < topOf FloatKind.f32.format) (hv : mg m' e' = mg m e) :
    ∃ m1 e1, FloatKind.f32.format.read (R.nar x) = .number s m1 e1 ∧ mg m1 e1 = mg m e := by
  obtain ⟨m1, e1, h1, h2⟩ := nearest_exact FloatKind.f32.format (exp3 .f32) s m' e' m e (by rw [B32]; omega) (by rw [least_eq]; exact he) ht hv
  refine ⟨m1, e1, ?_, h2⟩
  rw [← h1]
  have hn : isNan .f64 x = false := nm_not_nan ⟨_, _, _, hx⟩
  have : R.nar x = FloatKind.f32.format.nearest s m' e' := by
    show (fconv .f64 x .f32).getD 0 = _
    unfold fconv floatToFloatBits FloatKind.decode FloatKind.encode
    rw [hn, hx]
    simp only [Format.write, h1, Datum.isInfinity]
    rfl
  rw [this]

theorem abs_read {w : Nat} (h : Nm .f64 w) (h0 : fv .f64 w ≠ 0) : ∃ m e, FloatKind.f64.format.read (R.abs w) = .number false m e ∧ (fv .f64 w = mg m e ∨ fv .f64 w = -(mg m e)) := by
  obtain ⟨⟨s, m, e, hr⟩, h2, h3⟩ := abs_nm h
  have hg := mg_nonneg m e
  unfold fv at h2 h3 h0 ⊢
  rw [hr] at h2 h3
  cases s
  · refine ⟨m, e, hr, ?_⟩
    rw [vd_false] at h3
    rcases h3 with h3 | h3
    · left; rw [h3]
    · right; rw [h3]; grind
  · exfalso
    rw [vd_true] at h2 h3
    apply h0
    grind

/-- the size, told by the program (through a wider word) and by the reference -/
theorem size_eq {a : Nat} (hc : Cw a) : p_impl_absolute R a = p_spec_l02Size R a := by
  unfold p_impl_absolute p_spec_l02Size
  rcases nm_dec .f32 a with h | h
  · have hN := h
    have h0 : Nm .f32 0 := ⟨false, 0, _, rfl⟩
    have z0 : fv .f32 0 = 0 := by decide +kernel
    rw [leq_nm h h0, z0]
    obtain ⟨hw, hv⟩ := wid_nm h
    obtain ⟨s, m, e, hr⟩ := h
    obtain ⟨b1, b2, b3⟩ := read32_e a hr
    have hg := mg_nonneg m e
    by_cases hz : m = 0
    · subst hz
      have hd : decide (fv .f32 a ≤ 0) = true := by
        refine decide_eq_true ?_
        unfold fv; rw [hr]; cases s
        · rw [vd_false, mg_zero]; exact Rat.le_refl
        · rw [vd_true, mg_zero]; decide
      rw [hd]
      cases s
      · have : a = 0 := word_inj FloatKind.f32.format (by rw [sign32]; exact hc.1) (by decide) hr (show FloatKind.f32.format.read 0 = .number false 0 (-149) by decide) (by rw [mg_zero, mg_zero])
        rw [this]; decide
      · have : a = 2147483648 := word_inj FloatKind.f32.format (by rw [sign32]; exact hc.1) (by decide) hr (show FloatKind.f32.format.read 2147483648 = .number true 0 (-149) by decide) (by rw [mg_zero, mg_zero])
        rw [this]; decide
    · have hp : 0 < mg m e := mg_pos hz
      have hfa : fv .f32 a = if s then -(mg m e) else mg m e := by unfold fv; rw [hr]; cases s <;> rfl
      have hne : fv .f64 (R.wid a) ≠ 0 := by
        rw [hv, hfa]; cases s <;> simp only [if_true, if_false, Bool.false_eq_true] <;> grind
      obtain ⟨m1, e1, r1, v1⟩ := abs_read hw hne
      have hg1 := mg_nonneg m1 e1
      have hm1 : mg m1 e1 = mg m e := by
        rw [hv, hfa] at v1
        cases s <;> simp only [if_true, if_false, Bool.false_eq_true] at v1 <;> grind
      obtain ⟨m2, e2, r2, v2⟩ := nar_exact r1 b1 b2 b3 hm1
      have l2 := (cw_nar (R.abs (R.wid a))).1
      cases s
      · have hd : decide (fv .f32 a ≤ 0) = false := by
          refine decide_eq_false ?_
          rw [hfa]; simp only [if_false, Bool.false_eq_true]; grind
        rw [hd, cond_false]
        exact word_inj FloatKind.f32.format (by rw [sign32]; exact l2) (by rw [sign32]; exact hc.1) r2 hr v2
      · have hd : decide (fv .f32 a ≤ 0) = true := by
          refine decide_eq_true ?_
          rw [hfa]; simp only [if_true]; grind
        rw [hd, cond_true]
        have l3 := (cw_bin .sub 0 a).1
        have hs : R.bin .sub .f32 0 a = (FloatKind.f32.format.sub 0 a).getD (nanOf .f32) := rfl
        have r0 : FloatKind.f32.format.read 0 = .number false 0 (-149) := by decide
        obtain ⟨s', m', e', q1, q2⟩ := sum_num false 0 (-149) false m e
        have hb : R.bin .sub .f32 0 a = FloatKind.f32.format.nearest s' m' e' := by
          rw [hs]; unfold Format.sub
          rw [r0, hr]
          show (((Datum.number false 0 (-149)).sum (.number false m e)).map FloatKind.f32.format.write).getD _ = _
          rw [q1]; rfl
        rw [vd_false, vd_false, mg_zero] at q2
        have hg' := mg_nonneg m' e'
        have hs' : s' = false := by
          cases s'
          · rfl
          · exfalso; rw [vd_true] at q2; grind
        subst hs'
        rw [vd_false] at q2
        obtain ⟨m3, e3, r3, v3⟩ := nearest_exact FloatKind.f32.format (exp3 .f32) false m' e' m e (by rw [B32]; omega) (by rw [least_eq]; exact b2) b3 (by rw [q2]; grind)
        rw [← hb] at r3
        exact word_inj FloatKind.f32.format (by rw [sign32]; exact l2) (by rw [sign32]; exact l3) r2 r3 (by rw [v2, v3])
  · rcases not_nm h with h | ⟨s, h⟩
    · rw [hc.2 h]; decide
    · have := inf_word FloatKind.f32.format (by rw [sign32]; exact hc.1) h
      rw [this]
      cases s <;> decide
end Go.Dv

/- Bounds of both kinds of floats; what is the same number in other digits; halves. -/
namespace Go.Dv
open Go.Cv
open Ieee

/-- a number no greater than a power of two -/
def Bk (k : FloatKind) (a : Nat) (E : Int) : Prop := Nm k a ∧ fv k a ≤ p2 E ∧ -(fv k a) ≤ p2 E

theorem bk_mono {k : FloatKind} {a : Nat} {E F : Int} (h : Bk k a E) (hE : E ≤ F) : Bk k a F := by
  have := p2_mono hE
  exact ⟨h.1, by have := h.2.1; grind, by have := h.2.2; grind⟩
theorem bk_mul {k : FloatKind} {a b : Nat} {E F : Int} (ha : Bk k a E) (hb : Bk k b F) (h1 : loP k ≤ E + F) (h2 : E + F ≤ hiP k) : Bk k (R.bin .mul k a b) (E + F) := by
  obtain ⟨h3, h4⟩ := mul_bound ha.2.1 ha.2.2 hb.2.1 hb.2.2
  rw [← p2_add] at h3 h4
  exact (rd_mul ha.1 hb.1).le _ h1 h2 h3 h4
theorem bk_add {k : FloatKind} {a b : Nat} {E : Int} (ha : Bk k a E) (hb : Bk k b E) (h1 : loP k ≤ E + 1) (h2 : E + 1 ≤ hiP k) : Bk k (R.bin .add k a b) (E + 1) := by
  have := p2_succ E
  have := ha.2.1; have := ha.2.2; have := hb.2.1; have := hb.2.2
  exact (rd_add ha.1 hb.1).le _ h1 h2 (by grind) (by grind)
theorem bk_sub {k : FloatKind} {a b : Nat} {E : Int} (ha : Bk k a E) (hb : Bk k b E) (h1 : loP k ≤ E + 1) (h2 : E + 1 ≤ hiP k) : Bk k (R.bin .sub k a b) (E + 1) := by
  have := p2_succ E
  have := ha.2.1; have := ha.2.2; have := hb.2.1; have := hb.2.2
  exact (rd_sub ha.1 hb.1).le _ h1 h2 (by grind) (by grind)
theorem bk_quo {k : FloatKind} {a b : Nat} {E D : Int} (ha : Bk k a E) (hb : Nm k b) (hD : p2 D ≤ fv k b) (h1 : loP k ≤ E - D) (h2 : E - D ≤ hiP k) : Bk k (R.bin .quo k a b) (E - D) := by
  have hp := p2_pos D
  have hb0 : 0 < fv k b := by grind
  have hbn : fv k b ≠ 0 := by grind
  have hE : p2 E = p2 (E - D) * p2 D := by rw [← p2_add]; congr 1; omega
  have hq := p2_nonneg (E - D)
  have h5 : p2 (E - D) * p2 D ≤ p2 (E - D) * fv k b := Rat.mul_le_mul_of_nonneg_left hD hq
  have key : ∀ x : Rat, x ≤ p2 E → x / fv k b ≤ p2 (E - D) := by
    intro x hx
    refine Rat.le_of_mul_le_mul_right ?_ hb0
    rw [Rat.div_mul_cancel hbn]
    grind
  refine (rd_quo ha.1 hb hbn).le _ h1 h2 (key _ ha.2.1) ?_
  have : -(fv k a / fv k b) = (-(fv k a)) / fv k b := by rw [Rat.div_def, Rat.div_def, Rat.neg_mul]
  rw [this]
  exact key _ ha.2.2

theorem bk_wid {a : Nat} {E : Int} (h : Bk .f32 a E) : Bd (R.wid a) E := by
  obtain ⟨h1, h2⟩ := wid_nm h.1
  exact ⟨h1, by rw [h2]; exact h.2.1, by rw [h2]; exact h.2.2⟩

/-- what fits, narrowed -/
theorem nar_form {x : Nat} {s : Bool} {m : Nat} {e : Int} (hx : FloatKind.f64.format.read x = .number s m e) (h : R.narOk x = true) : R.nar x = FloatKind.f32.format.nearest s m e := by
  have hn : isNan .f64 x = false := nm_not_nan ⟨_, _, _, hx⟩
  have key : fconv .f64 x .f32 = bif (FloatKind.f32.format.read (FloatKind.f32.format.nearest s m e)).isInfinity then none else some (FloatKind.f32.format.nearest s m e) := by
    unfold fconv floatToFloatBits FloatKind.decode FloatKind.encode
    rw [hn, hx]
    cases hc : (FloatKind.f32.format.read (FloatKind.f32.format.nearest s m e)).isInfinity <;> simp [Format.write, hc]
  have h : (fconv .f64 x .f32).isSome = true := h
  show (fconv .f64 x .f32).getD 0 = _
  rw [key] at h ⊢
  cases hc : (FloatKind.f32.format.read (FloatKind.f32.format.nearest s m e)).isInfinity
  · rfl
  · rw [hc] at h; cases h
theorem bk_nar {x : Nat} {E : Int} (h : Bd x E) (h1 : -149 ≤ E) (h2 : E ≤ 127) : Bk .f32 (R.nar x) E := by
  have hk := bd_narOk h h2
  obtain ⟨⟨s, m, e, hr⟩, h3, h4⟩ := h
  rw [nar_form hr hk]
  unfold fv at h3 h4
  rw [hr] at h3 h4
  exact (rd_nearest .f32 s m e).le E h1 h2 h3 h4

/-! ### products in both orders -/
theorem product_comm (d e : Datum) : d.product e = e.product d := by
  cases d <;> cases e <;> simp [Datum.product, Nat.mul_comm, Int.add_comm, Bool.xor_comm]
theorem mul_comm' (k : FloatKind) (a b : Nat) : R.bin .mul k a b = R.bin .mul k b a := by
  show (k.format.mul a b).getD (nanOf k) = (k.format.mul b a).getD (nanOf k)
  unfold Format.mul
  rw [product_comm]

/-! ### the same number in other digits -/
theorem cut_two (neg : Bool) {n : Nat} (d : Nat) (hn : n ≠ 0) : Toward.even.cut neg (2 * n) (d + 1) = Toward.even.cut neg n d := by
  unfold Toward.cut
  have h1 : min (d + 1) ((2 * n).log2 + 2) = min d (n.log2 + 2) + 1 := by rw [Nat.log2_two_mul hn]; omega
  simp only [h1]
  generalize min d (n.log2 + 2) = x
  have h2 : 1 <<< (x + 1) = 2 * (1 <<< x) := by rw [Nat.shiftLeft_eq, Nat.shiftLeft_eq, Nat.pow_succ]; omega
  rw [h2]
  generalize 1 <<< x = g
  rw [Nat.mul_div_mul_left _ _ (by decide), Nat.mul_mod_mul_left]
  generalize n % g = r
  generalize n / g = l
  have e1 : decide (2 * g < 2 * (2 * r)) = decide (g < 2 * r) := decide_eq_decide.2 (by omega)
  have e2 : (2 * g == 2 * (2 * r)) = (g == 2 * r) := by
    rw [Bool.eq_iff_iff, beq_iff_eq, beq_iff_eq]; omega
  rw [e1, e2]

theorem nearest_two (f : Format) (neg : Bool) {m : Nat} (e : Int) (hm : m ≠ 0) : f.nearest neg (2 * m) (e - 1) = f.nearest neg m e := by
  unfold Format.nearest
  rw [if_neg hm, if_neg (by omega)]
  have h1 : e - 1 + ((2 * m).log2 : Int) - (f.fractionBits : Int) = e + (m.log2 : Int) - (f.fractionBits : Int) := by rw [Nat.log2_two_mul hm]; omega
  simp only [h1]
  generalize max (e + (m.log2 : Int) - (f.fractionBits : Int)) f.leastPlace = last
  have key : Toward.even.cut neg ((2 * m) <<< (e - 1 - last).toNat) (last - (e - 1)).toNat = Toward.even.cut neg (m <<< (e - last).toNat) (last - e).toNat := by
    by_cases h : last ≤ e - 1
    · have a1 : (last - (e - 1)).toNat = (last - e).toNat := by omega
      have a2 : (e - last).toNat = (e - 1 - last).toNat + 1 := by omega
      rw [a1, a2, Nat.shiftLeft_eq, Nat.shiftLeft_eq, Nat.pow_succ]
      congr 1
      rw [Nat.mul_comm 2 m, Nat.mul_assoc, Nat.mul_comm 2]
    · have a1 : (last - (e - 1)).toNat = (last - e).toNat + 1 := by omega
      have a2 : (e - 1 - last).toNat = 0 := by omega
      have a3 : (e - last).toNat = 0 := by omega
      rw [a1, a2, a3, Nat.shiftLeft_zero, Nat.shiftLeft_zero]
      exact cut_two neg _ hm
  rw [key]

theorem nearest_pow (f : Format) (neg : Bool) {m : Nat} (e : Int) (k : Nat) : f.nearest neg (m * 2 ^ k) (e - k) = f.nearest neg m e := by
  by_cases hm : m = 0
  · subst hm
    rw [Nat.zero_mul]
    unfold Format.nearest
    rw [if_pos rfl, if_pos rfl]
  · induction k with
    | zero => simp
    | succ k ih =>
      have h1 : m * 2 ^ (k + 1) = 2 * (m * 2 ^ k) := by rw [Nat.pow_succ, ← Nat.mul_assoc, Nat.mul_comm]
      have h2 : e - ((k + 1 : Nat) : Int) = (e - (k : Int)) - 1 := by omega
      rw [h1, h2, nearest_two f neg _ (Nat.mul_ne_zero hm (by have := Nat.two_pow_pos k; omega)), ih]

theorem half_eq (d : Nat) : R.bin .quo .f32 d 1073741824 = R.bin .mul .f32 1056964608 d := by
  show (FloatKind.f32.format.div d 1073741824).getD (nanOf .f32) = (FloatKind.f32.format.mul 1056964608 d).getD (nanOf .f32)
  unfold Format.div Format.mul
  have r2 : FloatKind.f32.format.read 1073741824 = .number false 8388608 (-22) := by decide
  have rh : FloatKind.f32.format.read 1056964608 = .number false 8388608 (-24) := by decide
  rw [r2, rh]
  cases hd : FloatKind.f32.format.read d with
  | nan s t => rfl
  | infinity s => cases s <;> rfl
  | number s m i =>
    obtain ⟨hm, _, _⟩ := read32_e d hd
    have hl : m.log2 ≤ 23 := by
      by_cases h0 : m = 0
      · subst h0; decide
      · have := (Nat.log2_lt h0).2 hm; omega
    have e8 : Nat.log2 8388608 = 23 := by decide
    have ef : FloatKind.f32.format.fractionBits = 23 := rfl
    simp only [Datum.quotient, Datum.product, e8, ef, if_neg (show ¬ (8388608 : Nat) = 0 by decide), Option.map_some, Option.getD_some, Format.write, Bool.xor_false, Bool.false_xor]
    obtain ⟨c, hc⟩ : ∃ c, 23 + 2 + 23 - m.log2 = c + 23 := ⟨25 - m.log2, by omega⟩
    rw [hc]
    have h1 : m <<< (c + 23) = 8388608 * (m * 2 ^ c) := by
      rw [Nat.shiftLeft_eq, Nat.pow_add]
      have : (2 : Nat) ^ 23 = 8388608 := by decide
      rw [this, Nat.mul_comm 8388608, Nat.mul_assoc]
    rw [h1, Nat.mul_div_cancel_left _ (by decide), Nat.mul_mod_right]
    have h2 : 2 * (m * 2 ^ c) + (0 != 0 : Bool).toNat = m * 2 ^ (c + 1) := by
      rw [Nat.pow_succ]
      show 2 * (m * 2 ^ c) + 0 = _
      rw [Nat.add_zero, Nat.mul_comm 2, Nat.mul_assoc]
    rw [h2]
    have h3 : i - -22 - ((c + 23 : Nat) : Int) - 1 = (i - 1) - ((c + 1 : Nat) : Int) := by omega
    have h4 : -24 + i = (i - 1) - ((23 : Nat) : Int) := by omega
    have h5 : 8388608 * m = m * 2 ^ 23 := by rw [Nat.mul_comm]
    rw [h3, h4, h5, nearest_pow, nearest_pow]

/-! ### a difference against a number of few digits -/
theorem sub_mg {k : FloatKind} {a b : Nat} (ha : Nm k a) (hb : Nm k b) {mc : Nat} {ec : Int} (hm : mc ≤ 2 * k.format.binade) (he : loP k ≤ ec) (ht : mg mc ec < topOf k.format) (h0 : 0 ≤ fv k a - fv k b) (h : fv k a - fv k b ≤ mg mc ec) :
    Nm k (R.bin .sub k a b) ∧ 0 ≤ fv k (R.bin .sub k a b) ∧ fv k (R.bin .sub k a b) ≤ mg mc ec := by
  have hrd := rd_sub ha hb
  obtain ⟨s, m, i, ra⟩ := ha
  obtain ⟨t, n, j, rb⟩ := hb
  obtain ⟨s', m', e', q1, q2⟩ := sum_num s m i (!t) n j
  have hform : R.bin .sub k a b = k.format.nearest s' m' e' := by
    show (k.format.sub a b).getD (nanOf k) = _
    unfold Format.sub
    rw [ra, rb]
    show (((Datum.number s m i).sum (.number (!t) n j)).map k.format.write).getD _ = _
    rw [q1]; rfl
  have hv : vd (.number s' m' e') = fv k a - fv k b := by
    rw [q2]
    unfold fv
    rw [ra, rb]
    cases t
    · rw [Bool.not_false, vd_true, vd_false (m := n)]; grind
    · rw [Bool.not_true, vd_false (m := n), vd_true]; grind
  have hg := mg_nonneg m' e'
  have hle : mg m' e' ≤ mg mc ec := by
    cases s'
    · rw [vd_false] at hv; rw [hv]; exact h
    · rw [vd_true] at hv; have := mg_nonneg mc ec; grind
  obtain ⟨m2, e2, r2, h2⟩ := nearest_le k.format (exp3 k) s' m' e' mc ec hm (by rw [least_eq]; exact he) ht hle
  rw [← hform] at r2
  have hN : Nm k (R.bin .sub k a b) := ⟨_, _, _, r2⟩
  refine ⟨hN, hrd.pos h0 hN, ?_⟩
  have hg2 := mg_nonneg m2 e2
  unfold fv
  rw [r2]
  cases s'
  · rw [vd_false]; exact h2
  · rw [vd_true]; grind
end Go.Dv

/- Rounding keeps the order against every word; the cosine is not small between -0.24 and 0.24; an east that is wrapped is one. -/
namespace Go.Dv
open Go.Cv
open Ieee

theorem read_fits (k : FloatKind) {a : Nat} {s : Bool} {m : Nat} {e : Int} (h : k.format.read a = .number s m e) : m ≤ 2 * k.format.binade ∧ loP k ≤ e ∧ mg m e < topOf k.format := by
  have hB : 0 < k.format.binade := Nat.two_pow_pos _
  have hlt : a % k.format.signWeight < k.format.infRung := by
    have h' := h
    unfold Format.read at h'
    simp only at h'
    have hb : k.format.binade ≤ k.format.infRung := by cases k <;> decide
    split at h'
    · rename_i h1; omega
    · split at h'
      · rename_i h2; exact h2
      · split at h' <;> cases h'
  obtain ⟨_, c⟩ := read_cases k.format h
  have hl := least_eq k
  have h3 := exp3 k
  have hr : k.format.infRung = (2 ^ k.format.exponentBits - 1) * k.format.binade := rfl
  have key : ∀ d : Nat, d * k.format.binade + m < k.format.infRung → k.format.binade ≤ m → m < 2 * k.format.binade → mg m (k.format.leastPlace + d) < topOf k.format := by
    intro d h1 h2 h6
    have h4 : (d + 1) * k.format.binade < (2 ^ k.format.exponentBits - 1) * k.format.binade := by rw [Nat.add_mul, Nat.one_mul, ← hr]; omega
    have h5 : d + 1 < 2 ^ k.format.exponentBits - 1 := Nat.lt_of_mul_lt_mul_right h4
    have h8 : k.format.leastPlace + (d : Int) + 1 ≤ k.format.leastPlace + ((2 ^ k.format.exponentBits - 2 : Nat) : Int) := by
      generalize 2 ^ k.format.exponentBits = Z at h5 ⊢
      omega
    have h9 : mg (2 * k.format.binade) (k.format.leastPlace + d) ≤ topOf k.format := by
      rw [mg_double]; exact mg_mono h8
    refine Rat.not_le.1 fun hc => ?_
    have := mg_le.1 (Rat.le_trans h9 hc)
    omega
  rcases c with ⟨x1, x2, x3⟩ | ⟨x1, x2, d, x3, x4⟩
  · refine ⟨by omega, by omega, ?_⟩
    refine top_of (by omega) ?_
    have : loP k + 1 ≤ topE k := by cases k <;> decide
    rw [x3]; omega
  · refine ⟨by omega, by omega, ?_⟩
    rw [x3]; exact key d (by omega) x1 x2

/-- the word n is v, rounded: no word lies between -/
structure Rc (k : FloatKind) (v : Rat) (n : Nat) : Prop where
  le : ∀ c, Nm k c → Nm k n → v ≤ fv k c → fv k n ≤ fv k c
  ge : ∀ c, Nm k c → Nm k n → fv k c ≤ v → fv k c ≤ fv k n

theorem rc_nearest (k : FloatKind) (s : Bool) (m : Nat) (e : Int) : Rc k (vd (.number s m e)) (k.format.nearest s m e) := by
  have up : ∀ mc ec, mc ≤ 2 * k.format.binade → loP k ≤ ec → mg mc ec < topOf k.format → mg m e ≤ mg mc ec → ∀ s' m' e', k.format.read (k.format.nearest s m e) = .number s' m' e' → mg m' e' ≤ mg mc ec := by
    intro mc ec h1 h2 h3 h4 s' m' e' hr
    obtain ⟨m2, e2, r2, h5⟩ := nearest_le k.format (exp3 k) s m e mc ec h1 (by rw [least_eq]; exact h2) h3 h4
    rw [hr] at r2; cases r2; exact h5
  have dn : ∀ mc ec, mc ≤ 2 * k.format.binade → loP k ≤ ec → mg mc ec ≤ mg m e → ∀ s' m' e', k.format.read (k.format.nearest s m e) = .number s' m' e' → mg mc ec ≤ mg m' e' := by
    intro mc ec h1 h2 h4 s' m' e' hr
    have hs := nearest_sign k.format (exp3 k) s m e hr
    subst hs
    exact nearest_ge k.format (exp3 k) s' m e mc ec h1 (by rw [least_eq]; exact h2) h4 hr
  have hg := mg_nonneg m e
  constructor
  · intro c ⟨t, mc, ec, hc⟩ ⟨s', m', e', hn⟩ h
    obtain ⟨f1, f2, f3⟩ := read_fits k hc
    have hs := nearest_sign k.format (exp3 k) s m e hn
    subst hs
    have hgc := mg_nonneg mc ec
    have hg' := mg_nonneg m' e'
    unfold fv at h ⊢
    rw [hc] at h ⊢; rw [hn]
    cases s' <;> cases t <;> simp only [vd_true, vd_false] at h ⊢
    · exact up mc ec f1 f2 f3 h _ _ _ hn
    · have := up mc ec f1 f2 f3 (by grind) _ _ _ hn
      grind
    · grind
    · have := dn mc ec f1 f2 (by grind) _ _ _ hn
      grind
  · intro c ⟨t, mc, ec, hc⟩ ⟨s', m', e', hn⟩ h
    obtain ⟨f1, f2, f3⟩ := read_fits k hc
    have hs := nearest_sign k.format (exp3 k) s m e hn
    subst hs
    have hgc := mg_nonneg mc ec
    have hg' := mg_nonneg m' e'
    unfold fv at h ⊢
    rw [hc] at h ⊢; rw [hn]
    cases s' <;> cases t <;> simp only [vd_true, vd_false] at h ⊢
    · exact dn mc ec f1 f2 h _ _ _ hn
    · grind
    · have := up mc ec f1 f2 f3 (by grind) _ _ _ hn
      grind
    · have := up mc ec f1 f2 f3 (by grind) _ _ _ hn
      grind

theorem rc_add {k : FloatKind} {a b : Nat} (ha : Nm k a) (hb : Nm k b) : Rc k (fv k a + fv k b) (R.bin .add k a b) := by
  obtain ⟨s, m, i, ha⟩ := ha
  obtain ⟨t, n, j, hb⟩ := hb
  obtain ⟨s', m', e', hs, hv⟩ := sum_num s m i t n j
  have : R.bin .add k a b = k.format.nearest s' m' e' := by
    show (k.format.add a b).getD (nanOf k) = _
    unfold Format.add
    rw [ha, hb, hs]; rfl
  rw [this]; unfold fv; rw [ha, hb, ← hv]
  exact rc_nearest k s' m' e'
theorem rc_sub {k : FloatKind} {a b : Nat} (ha : Nm k a) (hb : Nm k b) : Rc k (fv k a - fv k b) (R.bin .sub k a b) := by
  obtain ⟨s, m, i, ha⟩ := ha
  obtain ⟨t, n, j, hb⟩ := hb
  obtain ⟨s', m', e', hs, hv⟩ := sum_num s m i (!t) n j
  have : R.bin .sub k a b = k.format.nearest s' m' e' := by
    show (k.format.sub a b).getD (nanOf k) = _
    unfold Format.sub
    rw [ha, hb, show (Datum.number t n j).opposite = .number (!t) n j from rfl, hs]; rfl
  have h2 : vd (.number (!t) n j) = -(vd (.number t n j)) := neg_num t n j
  rw [this]; unfold fv; rw [ha, hb, Rat.sub_eq_add_neg, ← h2, ← hv]
  exact rc_nearest k s' m' e'
theorem rc_mul {k : FloatKind} {a b : Nat} (ha : Nm k a) (hb : Nm k b) : Rc k (fv k a * fv k b) (R.bin .mul k a b) := by
  obtain ⟨s, m, i, ha⟩ := ha
  obtain ⟨t, n, j, hb⟩ := hb
  obtain ⟨hs, hv⟩ := product_num s m i t n j
  have : R.bin .mul k a b = k.format.nearest (s ^^ t) (m * n) (i + j) := by
    show (k.format.mul a b).getD (nanOf k) = _
    unfold Format.mul
    rw [ha, hb, hs]; rfl
  rw [this]; unfold fv; rw [ha, hb, ← hv]
  exact rc_nearest k _ _ _

/-! ### the cosine from below -/
theorem sin_den6 : ∀ k < 8, 6 ≤ fv .f64 (R.ofi .f64 (2 * ((k : Nat) + 1) * (2 * ((k : Nat) + 1) + 1))) := by decide +kernel
theorem nm_three : Nm .f64 4613937818241073152 := ⟨_, _, _, rfl⟩
theorem fv_three : fv .f64 4613937818241073152 = 3 := by decide +kernel
theorem nm_13 : Nm .f64 4609997168567123968 := ⟨_, _, _, rfl⟩
theorem fv_13 : fv .f64 4609997168567123968 = 13 / 8 := by decide +kernel
theorem p2_m1 : p2 (-1) = 1 / 2 := by decide +kernel
theorem p2_m5 : p2 (-5) = 1 / 32 := by decide +kernel
theorem p2_m6 : p2 (-6) = 1 / 64 := by decide +kernel
theorem p2_m7 : p2 (-7) = 1 / 128 := by decide +kernel
theorem turn_lo : 4 ≤ fv .f64 4618760256179416344 := by decide +kernel
theorem turn_hi : fv .f64 4618760256179416344 ≤ 13 / 2 := by decide +kernel

theorem sinPoly_half {u : Nat} (hu : Nm .f64 u) (u0 : 0 ≤ fv .f64 u) (u3 : fv .f64 u ≤ 3) : ∀ (k : Nat), k ≤ 8 → ∀ (p : Nat), Nm .f64 p → 1 / 2 ≤ fv .f64 p → fv .f64 p ≤ 1 →
    Nm .f64 (sinPoly R u k p) ∧ 1 / 2 ≤ fv .f64 (sinPoly R u k p) ∧ fv .f64 (sinPoly R u k p) ≤ 1 := by
  intro k
  induction k with
  | zero => intro _ p h h1 h2; exact ⟨h, h1, h2⟩
  | succ k ih =>
    intro hk p h h1 h2
    unfold sinPoly
    obtain ⟨d1, _⟩ := sin_den k (by omega)
    have d6 := sin_den6 k (by omega)
    generalize R.ofi .f64 (2 * ((k : Nat) + 1) * (2 * ((k : Nat) + 1) + 1)) = d at *
    have m0 : 0 ≤ fv .f64 u * fv .f64 p := Rat.mul_nonneg u0 (by grind)
    have m3 : fv .f64 u * fv .f64 p ≤ 3 := by
      have := Rat.mul_le_mul_of_nonneg_left h2 u0
      grind
    have p22 : p2 2 = 4 := by decide +kernel
    obtain ⟨hN, _, _⟩ := (rd_mul hu h).le 2 (by decide) (by decide) (by rw [p22]; grind) (by rw [p22]; grind)
    have c3 := (rc_mul hu h).le _ nm_three hN (by rw [fv_three]; exact m3)
    rw [fv_three] at c3
    have c0 := (rd_mul hu h).pos m0 hN
    generalize R.bin .mul .f64 u p = up at *
    have hd0 : 0 < fv .f64 d := by grind
    have hdn : fv .f64 d ≠ 0 := by grind
    have q1 : fv .f64 up / fv .f64 d ≤ 1 / 2 := by
      refine Rat.le_of_mul_le_mul_right ?_ hd0
      rw [Rat.div_mul_cancel hdn]; grind
    have q0 : 0 ≤ fv .f64 up / fv .f64 d := by
      rw [Rat.div_def]; exact Rat.mul_nonneg c0 (Rat.le_of_lt (Rat.inv_pos.2 hd0))
    have hq := rd_quo hN d1 hdn
    obtain ⟨hNq, q2, _⟩ := hq.le (-1) (by decide) (by decide) (by rw [p2_m1]; exact q1) (by rw [p2_m1]; grind)
    rw [p2_m1] at q2
    have q3 := hq.pos q0 hNq
    generalize R.bin .quo .f64 up d = q at *
    have hs := rd_sub bd_one.1 hNq
    rw [fv_one] at hs
    obtain ⟨hNs, s1, _⟩ := hs.le 0 (by decide) (by decide) (by rw [p2_zero]; grind) (by rw [p2_zero]; grind)
    rw [p2_zero] at s1
    have s2 := hs.ge (-1) (by decide) hNs (by rw [p2_m1]; grind)
    rw [p2_m1] at s2
    exact ih (by omega) _ hNs s2 s1

theorem sinCore_low {f : Nat} (hf : Nm .f64 f) (h0 : 1 / 128 ≤ fv .f64 f) (h1 : fv .f64 f ≤ 1 / 4) : 1 / 64 ≤ fv .f64 (sinCore R f) := by
  unfold sinCore
  have t1 := turn_lo
  have t2 := turn_hi
  have bt := bd_turn
  have p22 : p2 2 = 4 := by decide +kernel
  have l1 : fv .f64 f * 4 ≤ fv .f64 f * fv .f64 4618760256179416344 := Rat.mul_le_mul_of_nonneg_left t1 (by grind)
  have l2 : fv .f64 f * fv .f64 4618760256179416344 ≤ 13 / 8 := by
    have a1 : fv .f64 f * fv .f64 4618760256179416344 ≤ (1 / 4) * fv .f64 4618760256179416344 := Rat.mul_le_mul_of_nonneg_right h1 (by grind)
    grind
  have hz := rd_mul hf bt.1
  obtain ⟨hN, _, _⟩ := hz.le 2 (by decide) (by decide) (by rw [p22]; grind) (by rw [p22]; grind)
  have z1 := hz.ge (-5) (by decide) hN (by rw [p2_m5]; grind)
  rw [p2_m5] at z1
  have z2 := (rc_mul hf bt.1).le _ nm_13 hN (by rw [fv_13]; exact l2)
  rw [fv_13] at z2
  generalize R.bin .mul .f64 f 4618760256179416344 = z at *
  have m1 : fv .f64 z * fv .f64 z ≤ 3 := by
    have a1 : fv .f64 z * fv .f64 z ≤ fv .f64 z * (13 / 8) := Rat.mul_le_mul_of_nonneg_left z2 (by grind)
    have a2 : fv .f64 z * (13 / 8) ≤ (13 / 8) * (13 / 8) := Rat.mul_le_mul_of_nonneg_right z2 (by decide +kernel)
    grind
  have m0 : 0 ≤ fv .f64 z * fv .f64 z := Rat.mul_nonneg (by grind) (by grind)
  have hu := rd_mul hN hN
  obtain ⟨hNu, _, _⟩ := hu.le 2 (by decide) (by decide) (by rw [p22]; grind) (by rw [p22]; grind)
  have u3 := (rc_mul hN hN).le _ nm_three hNu (by rw [fv_three]; exact m1)
  rw [fv_three] at u3
  have u0 := hu.pos m0 hNu
  obtain ⟨hNp, p1, p3⟩ := sinPoly_half hNu u0 u3 8 (by decide) _ bd_one.1 (by rw [fv_one]; decide +kernel) (by rw [fv_one]; exact Rat.le_refl)
  generalize sinPoly R (R.bin .mul .f64 z z) 8 4607182418800017408 = p at *
  have o1 : 1 / 64 ≤ fv .f64 z * fv .f64 p := by
    have a1 : (1 / 32) * fv .f64 p ≤ fv .f64 z * fv .f64 p := Rat.mul_le_mul_of_nonneg_right z1 (by grind)
    grind
  have o2 : fv .f64 z * fv .f64 p ≤ 4 := by
    have a1 : fv .f64 z * fv .f64 p ≤ fv .f64 z * 1 := Rat.mul_le_mul_of_nonneg_left p3 (by grind)
    grind
  have ho := rd_mul hN hNp
  obtain ⟨hNo, _, _⟩ := ho.le 2 (by decide) (by decide) (by rw [p22]; exact o2) (by rw [p22]; grind)
  have := ho.ge (-6) (by decide) hNo (by rw [p2_m6]; exact o1)
  rw [p2_m6] at this
  exact this

theorem fv_q32 : fv .f32 1048576000 = 1 / 4 := by decide +kernel
theorem nm_q32 : Nm .f32 1048576000 := ⟨_, _, _, rfl⟩
theorem fv_63 : fv .f32 1056702464 = 63 / 128 := by decide +kernel
theorem nm_63 : Nm .f32 1056702464 := ⟨_, _, _, rfl⟩
theorem fv_q64 : fv .f64 4598175219545276416 = 1 / 4 := by decide +kernel

theorem fraction_same {y : Nat} (hy : Nm .f64 y) (h0 : 0 ≤ fv .f64 y) (h1 : fv .f64 y < 1) : Nm .f64 (p_impl_fraction R y) ∧ fv .f64 (p_impl_fraction R y) = fv .f64 y := by
  have hN := hy
  obtain ⟨s, m, e, hr⟩ := hy
  have hg := mg_nonneg m e
  have hm : mg m e < 1 := by
    unfold fv at h0 h1; rw [hr] at h0 h1
    cases s <;> simp only [vd_true, vd_false] at h0 h1 <;> grind
  have hw : wholeOf m e = 0 := by
    have a1 := wholeOf_le m e
    rw [mg_nat0] at a1
    have a2 : ((wholeOf m e : Nat) : Rat) < ((1 : Nat) : Rat) := by
      have : ((1 : Nat) : Rat) = 1 := rfl
      grind
    have := Rat.natCast_lt_natCast.1 a2
    omega
  have hT : fv .f64 (R.trunc y) = 0 ∧ Nm .f64 (R.trunc y) := by
    obtain ⟨m', e', hx, hv⟩ := trunc_nm hr (by rw [hw]; decide)
    rw [hw] at hv
    refine ⟨?_, ⟨_, _, _, hx⟩⟩
    unfold fv; rw [hx]
    have hz : mg m' e' = 0 := hv
    cases s <;> simp only [vd_true, vd_false, hz] <;> rfl
  have hwW : wholeW y = 0 := by
    unfold wholeW
    rw [eql_nm hT.2 bd_zero.1, fv_zero, decide_eq_true hT.1]; rfl
  rw [fraction_eq, hwW]
  have hd := rd_sub hN bd_zero.1
  have hc := rc_sub hN bd_zero.1
  rw [fv_zero] at hd hc
  obtain ⟨hNs, _, _⟩ := hd.le 0 (by decide) (by decide) (by rw [p2_zero]; grind) (by rw [p2_zero]; grind)
  have e1 := hc.le y hN hNs (by grind)
  have e2 := hc.ge y hN hNs (by grind)
  have he : fv .f64 (R.bin .sub .f64 y 0) = fv .f64 y := Rat.le_antisymm e1 e2
  unfold fracW
  rw [lss_nm hNs bd_zero.1, fv_zero, decide_eq_false (by rw [he]; grind), cond_false]
  exact ⟨hNs, he⟩

theorem sineTail_low {f : Nat} (hf : Nm .f64 f) (h0 : 1 / 128 ≤ fv .f64 f) (h1 : fv .f64 f ≤ 63 / 128) : 1 / 64 ≤ fv .f64 (sineTail R f) := by
  have hh : R.cmp .geq .f64 f 4602678819172646912 = false := by
    rw [geq_nm hf bd_half.1, fv_half]; exact decide_eq_false (by grind)
  have hH : sinHalf R f = f := by unfold sinHalf; rw [hh]; rfl
  unfold sineTail
  rw [hh, cond_false, hH]
  unfold sinQuarter
  rw [gtr_nm hf bd_quart.1, fv_q64]
  by_cases hc : 1 / 4 < fv .f64 f
  · rw [decide_eq_true hc, cond_true]
    have hs := rd_sub bd_half.1 hf
    rw [fv_half] at hs
    obtain ⟨hN, _, _⟩ := hs.le 0 (by decide) (by decide) (by rw [p2_zero]; grind) (by rw [p2_zero]; grind)
    have g1 := hs.ge (-7) (by decide) hN (by rw [p2_m7]; grind)
    rw [p2_m7] at g1
    have hcc := rc_sub bd_half.1 hf
    rw [fv_half] at hcc
    have g2 := hcc.le _ bd_quart.1 hN (by rw [fv_q64]; grind)
    rw [fv_q64] at g2
    exact sinCore_low hN g1 g2
  · rw [decide_eq_false hc, cond_false]
    exact sinCore_low hf h0 (by grind)

/-- between -0.24 and 0.24 -/
def In24 (x : Nat) : Prop := Nm .f32 x ∧ -(31 / 128) ≤ fv .f32 x ∧ fv .f32 x ≤ 31 / 128

theorem cos_low {x : Nat} (h : In24 x) : Nm .f32 (p_spec_l02Cosine R x) ∧ 1 / 64 ≤ fv .f32 (p_spec_l02Cosine R x) ∧ Bk .f32 (p_spec_l02Cosine R x) 43 := by
  obtain ⟨hx, h1, h2⟩ := h
  have ha := rd_add hx nm_q32
  have hac := rc_add hx nm_q32
  rw [fv_q32] at ha hac
  obtain ⟨hN, _, _⟩ := ha.le 0 (by decide) (by decide) (by rw [p2_zero]; grind) (by rw [p2_zero]; grind)
  have g1 := ha.ge (-7) (by decide) hN (by rw [p2_m7]; grind)
  rw [p2_m7] at g1
  have g2 := hac.le _ nm_63 hN (by rw [fv_63]; grind)
  rw [fv_63] at g2
  show Nm .f32 (p_spec_l01Sine R (R.bin .add .f32 x 1048576000)) ∧ 1 / 64 ≤ fv .f32 (p_spec_l01Sine R (R.bin .add .f32 x 1048576000)) ∧ Bk .f32 (p_spec_l01Sine R (R.bin .add .f32 x 1048576000)) 43
  generalize R.bin .add .f32 x 1048576000 = t at *
  obtain ⟨w1, w2⟩ := wid_nm hN
  have hs : p_spec_l01Sine R t = R.nar (sineTail R (p_impl_fraction R (R.wid t))) := by
    rw [← sine_eq, impl_sineW]
    unfold sineW
    obtain ⟨a1, a2, a3⟩ := abs_nm w1
    have p52 : (1 : Rat) < p2 52 := by decide +kernel
    rw [decide_eq_true w1, Bool.not_true, cond_false, geq_nm a1 nm_big, fv_big, decide_eq_false (by rw [w2] at a3; rcases a3 with a3 | a3 <;> rw [a3] <;> grind), cond_false]
  rw [hs]
  obtain ⟨f1, f2⟩ := fraction_same w1 (by rw [w2]; grind) (by rw [w2]; grind)
  have lo := sineTail_low f1 (by rw [f2, w2]; exact g1) (by rw [f2, w2]; exact g2)
  have hb := sineTail_bd f1 (by rw [f2, w2]; grind) (by rw [f2, w2]; grind)
  generalize sineTail R (p_impl_fraction R (R.wid t)) = y at *
  have hbk := bk_nar hb (by decide) (by decide)
  refine ⟨hbk.1, ?_, hbk⟩
  have hk := bd_narOk hb (by decide)
  obtain ⟨⟨s, m, e, hr⟩, _, _⟩ := hb
  have hN2 := hbk.1
  have hf := nar_form hr hk
  rw [hf] at hN2 ⊢
  have hv : fv .f64 y = vd (.number s m e) := by unfold fv; rw [hr]
  have := (rd_nearest .f32 s m e).ge (-6) (by decide) hN2 (by rw [← hv, p2_m6]; exact lo)
  rw [p2_m6] at this
  exact this
end Go.Dv

/- An east that is wrapped lies between -0.5 and 0.5. -/
namespace Go.Dv
open Go.Cv
open Ieee

theorem cut_down_pos (n drop : Nat) : Toward.down.cut false n drop = n / 2 ^ drop := by
  rw [← cut_zero_eq false n drop]
  unfold Toward.cut
  simp only [Bool.false_and]
theorem le_cut_down (n drop : Nat) : n ≤ Toward.down.cut true n drop * 2 ^ drop := by
  unfold Toward.cut
  simp only [Nat.one_shiftLeft, Bool.true_and]
  have hg : 2 ^ min drop (n.log2 + 2) ≤ 2 ^ drop := Nat.pow_le_pow_right (by decide) (Nat.min_le_left _ _)
  have hp : 0 < 2 ^ min drop (n.log2 + 2) := Nat.two_pow_pos _
  generalize 2 ^ min drop (n.log2 + 2) = g at *
  have h1 := Nat.div_add_mod n g
  have h2 := Nat.mod_lt n hp
  have key : n ≤ (n / g + (n % g != 0).toNat) * g := by
    by_cases h0 : n % g = 0
    · rw [h0] at h1 ⊢
      rw [Nat.mul_comm] at h1
      show n ≤ (n / g + 0) * g
      rw [Nat.add_zero]; omega
    · have : (n % g != 0) = true := by simp [h0]
      rw [this]
      show n ≤ (n / g + 1) * g
      rw [Nat.add_mul, Nat.mul_comm (n / g)]
      omega
  exact Nat.le_trans key (Nat.mul_le_mul_left _ hg)

/-- the floor of a small number -/
theorem floor_val {r : Nat} (h : Nm .f32 r) (h1 : fv .f32 r ≤ 4) (h2 : -4 ≤ fv .f32 r) :
    Nm .f32 (R.nar (R.floor (R.wid r))) ∧ fv .f32 (R.nar (R.floor (R.wid r))) ≤ fv .f32 r ∧ -4 ≤ fv .f32 (R.nar (R.floor (R.wid r))) ∧
    (fv .f32 r < 1 → fv .f32 (R.nar (R.floor (R.wid r))) ≤ 0) ∧ (fv .f32 r < 2 → fv .f32 (R.nar (R.floor (R.wid r))) ≤ 1) := by
  obtain ⟨hw, hv⟩ := wid_nm h
  obtain ⟨s, m1, e1, hx⟩ := hw
  have hn : isNan .f64 (R.wid r) = false := nm_not_nan ⟨_, _, _, hx⟩
  have hf : R.floor (R.wid r) = FloatKind.f64.format.nearest s (Toward.down.cut s (m1 <<< e1.toNat) (-e1).toNat) 0 := by
    show ffloor .down (R.wid r) = _
    unfold ffloor
    rw [hn, decode_eq, hx]
    rw [if_neg (by decide)]
    unfold FloatKind.encode Datum.integral
    simp only [Format.write]
  have hvr : fv .f32 r = vd (.number s m1 e1) := by rw [← hv]; unfold fv; rw [hx]
  have hg := mg_nonneg m1 e1
  have hm4 : mg m1 e1 ≤ mg 4 0 := by
    rw [mg_nat0]
    have h4 : ((4 : Nat) : Rat) = 4 := rfl
    rw [h4]
    rw [hvr] at h1 h2
    cases s <;> simp only [vd_true, vd_false] at h1 h2 <;> grind
  have hK : Toward.down.cut s (m1 <<< e1.toNat) (-e1).toNat ≤ 4 := cut_down_le _ _ _ _ ((units_le _ _ _).1 hm4)
  have lo : s = false → mg (Toward.down.cut s (m1 <<< e1.toNat) (-e1).toNat) 0 ≤ mg m1 e1 := by
    intro hs; subst hs
    rw [cut_down_pos]
    exact wholeOf_le m1 e1
  have hi : s = true → mg m1 e1 ≤ mg (Toward.down.cut s (m1 <<< e1.toNat) (-e1).toNat) 0 := by
    intro hs; subst hs
    rw [units_le]
    exact le_cut_down _ _
  generalize Toward.down.cut s (m1 <<< e1.toNat) (-e1).toNat = K at *
  have ht : mg K 0 < topOf FloatKind.f32.format := top_of (by rw [B32]; omega) (by decide)
  obtain ⟨m2, e2, r2, v2⟩ := nearest_exact FloatKind.f64.format (exp3 .f64) s K 0 K 0 (by rw [B64]; omega) (by decide) (top_of (by rw [B64]; omega) (by decide)) rfl
  rw [← hf] at r2
  obtain ⟨m3, e3, r3, v3⟩ := nar_exact (m := K) (e := 0) r2 (by omega) (by decide) ht v2
  have hval : fv .f32 (R.nar (R.floor (R.wid r))) = vd (.number s K 0) := by
    unfold fv; rw [r3]; cases s <;> simp only [vd_true, vd_false, v3]
  have hK0 : mg K 0 = (K : Rat) := mg_nat0 K
  have hKn : (0 : Rat) ≤ (K : Rat) := nat_nonneg K
  have hK4 : (K : Rat) ≤ 4 := nat_mono hK
  refine ⟨⟨_, _, _, r3⟩, ?_, ?_, ?_, ?_⟩ <;> rw [hval] <;> try rw [hvr]
  · cases s
    · rw [vd_false, vd_false]; exact lo rfl
    · rw [vd_true, vd_true]; have := hi rfl; grind
  · cases s
    · rw [vd_false, hK0]; grind
    · rw [vd_true, hK0]; grind
  · intro hlt
    cases s
    · rw [vd_false] at hlt ⊢
      have a1 := lo rfl
      rw [hK0] at a1 ⊢
      have a2 : (K : Rat) < ((1 : Nat) : Rat) := by
        have : ((1 : Nat) : Rat) = 1 := rfl
        grind
      have a3 := Rat.natCast_lt_natCast.1 a2
      have : K = 0 := by omega
      rw [this]; exact Rat.le_refl
    · rw [vd_true, hK0]; grind
  · intro hlt
    cases s
    · rw [vd_false] at hlt ⊢
      have a1 := lo rfl
      rw [hK0] at a1 ⊢
      have a2 : (K : Rat) < ((2 : Nat) : Rat) := by
        have : ((2 : Nat) : Rat) = 2 := rfl
        grind
      have a3 := Rat.natCast_lt_natCast.1 a2
      exact nat_mono (show K ≤ 1 by omega)
    · rw [vd_true, hK0]; grind

theorem nm_h32 : Nm .f32 1056964608 := ⟨_, _, _, rfl⟩
theorem fv_h32 : fv .f32 1056964608 = 1 / 2 := by decide +kernel
theorem nm_nh32 : Nm .f32 3204448256 := ⟨_, _, _, rfl⟩
theorem fv_nh32 : fv .f32 3204448256 = -(1 / 2) := by decide +kernel
theorem nm_a32 : Nm .f32 1069547520 := ⟨_, _, _, rfl⟩
theorem fv_a32 : fv .f32 1069547520 = 3 / 2 := by decide +kernel
theorem nm_b32 : Nm .f32 1065353215 := ⟨_, _, _, rfl⟩
theorem fv_b32 : fv .f32 1065353215 = 1 - p2 (-24) := by decide +kernel
theorem p2_3 : p2 3 = 8 := by decide +kernel
theorem p2_1' : p2 1 = 2 := by decide +kernel

/-- a sum of which no digit is lost -/
theorem add_exact {a b : Nat} (ha : Nm .f32 a) (hb : Nm .f32 b) {mc : Nat} {ec : Int} (hm : mc ≤ 2 ^ 24) (he : -149 ≤ ec) (ht : mg mc ec < topOf FloatKind.f32.format) (hv : fv .f32 a + fv .f32 b = -(mg mc ec)) :
    fv .f32 (R.bin .add .f32 a b) = -(mg mc ec) := by
  obtain ⟨s, m, i, ha⟩ := ha
  obtain ⟨t, n, j, hb⟩ := hb
  obtain ⟨s', m', e', hs, hv'⟩ := sum_num s m i t n j
  have hform : R.bin .add .f32 a b = FloatKind.f32.format.nearest s' m' e' := by
    show (FloatKind.f32.format.add a b).getD (nanOf .f32) = _
    unfold Format.add
    rw [ha, hb, hs]; rfl
  have hvv : vd (.number s' m' e') = -(mg mc ec) := by
    rw [hv', ← hv]; unfold fv; rw [ha, hb]
  have hg := mg_nonneg m' e'
  have hgc := mg_nonneg mc ec
  have hmm : mg m' e' = mg mc ec := by
    cases s'
    · rw [vd_false] at hvv; grind
    · rw [vd_true] at hvv; grind
  obtain ⟨m2, e2, r2, v2⟩ := nearest_exact FloatKind.f32.format (exp3 .f32) s' m' e' mc ec (by rw [B32]; exact hm) (by rw [least_eq]; exact he) ht hmm
  rw [hform]
  unfold fv; rw [r2]
  cases s'
  · rw [vd_false] at hvv ⊢; rw [v2, ← hvv, hmm]
  · rw [vd_true, v2]

theorem add_read {a b c : Nat} (h : FloatKind.f32.format.read a = FloatKind.f32.format.read b) : R.bin .add .f32 a c = R.bin .add .f32 b c := by
  show (FloatKind.f32.format.add a c).getD (nanOf .f32) = (FloatKind.f32.format.add b c).getD (nanOf .f32)
  unfold Format.add
  rw [h]
theorem sub_read {a b c : Nat} (h : FloatKind.f32.format.read a = FloatKind.f32.format.read b) : R.bin .sub .f32 a c = R.bin .sub .f32 b c := by
  show (FloatKind.f32.format.sub a c).getD (nanOf .f32) = (FloatKind.f32.format.sub b c).getD (nanOf .f32)
  unfold Format.sub
  rw [h]

/-- between -0.5 and 0.5 -/
def InH (x : Nat) : Prop := Nm .f32 x ∧ -(1 / 2) ≤ fv .f32 x ∧ fv .f32 x < 1 / 2

theorem p2_lt {m : Nat} {e : Int} (hm : m < 2 ^ 24) {E : Int} (h : p2 E < mg m e) : E < 24 + e := by
  refine Classical.byContradiction fun hc => ?_
  have h1 : mg m e ≤ mg (2 ^ 24) e := mg_le.2 (by omega)
  have h2 : mg (2 ^ 24) e = p2 (24 + e) := by
    unfold mg; rw [p2_add, ← p2_nat]; rfl
  have h3 : p2 (24 + e) ≤ p2 E := p2_mono (by omega)
  rw [h2] at h1
  have := Rat.le_trans h1 h3
  grind

/-- below -0.5 the sum with 0.5 is exact -/
theorem low_exact {x : Nat} (hx : Nm .f32 x) (h1 : -1 ≤ fv .f32 x) (h2 : fv .f32 x < -(1 / 2)) : fv .f32 (R.bin .add .f32 x 1056964608) = fv .f32 x + 1 / 2 := by
  have hN := hx
  obtain ⟨s, m, e, hr⟩ := hx
  obtain ⟨b1, b2, _⟩ := read32_e x hr
  have hg := mg_nonneg m e
  have hv : fv .f32 x = -(mg m e) := by
    unfold fv at h2 ⊢; rw [hr] at h2 ⊢
    cases s
    · rw [vd_false] at h2; exfalso; grind
    · rfl
  rw [hv] at h1 h2
  have he : -25 < e := by
    have := p2_lt (e := e) (E := -1) b1 (by rw [p2_m1]; grind)
    omega
  have key : ∃ mc ec, mc ≤ 2 ^ 24 ∧ -149 ≤ ec ∧ mg mc ec < topOf FloatKind.f32.format ∧ fv .f32 x + 1 / 2 = -(mg mc ec) := by
    by_cases hc : e ≤ -1
    · have hhalf : mg (2 ^ (-1 - e).toNat) e = 1 / 2 := by
        have : mg (2 ^ (-1 - e).toNat) e = p2 (-1) := by
          unfold mg
          rw [← p2_nat, ← p2_add]
          congr 1; omega
        rw [this, p2_m1]
      have hle : 2 ^ (-1 - e).toNat ≤ m := by
        have h5 : mg (2 ^ (-1 - e).toNat) e ≤ mg m e := by rw [hhalf]; grind
        exact mg_le.1 h5
      have hsl : m - 2 ^ (-1 - e).toNat ≤ m := Nat.sub_le _ _
      refine ⟨m - 2 ^ (-1 - e).toNat, e, Nat.le_trans hsl (Nat.le_of_lt b1), b2, ?_, ?_⟩
      · exact top_of (by rw [B32]; have := Nat.le_trans hsl (Nat.le_of_lt b1); exact this) (by show e + 1 ≤ 104; omega)
      · rw [hv]
        have hsub : mg (m - 2 ^ (-1 - e).toNat) e = mg m e - mg (2 ^ (-1 - e).toNat) e := by
          have h5 : mg m e = mg (m - 2 ^ (-1 - e).toNat) e + mg (2 ^ (-1 - e).toNat) e := by
            unfold mg
            rw [← Rat.add_mul, ← Rat.natCast_add, Nat.sub_add_cancel hle]
          grind
        rw [hsub, hhalf]; grind
    · have h6 : mg m e = 1 := by
        have hm : 1 ≤ m := by
          rcases Nat.eq_zero_or_pos m with h0 | h0
          · subst h0; rw [mg_zero] at h2; exfalso; grind
          · exact h0
        have h7 : mg 1 0 ≤ mg m e := Rat.le_trans (mg_mono (show (0 : Int) ≤ e by omega)) (mg_le.2 hm)
        have h8 : mg 1 0 = 1 := by rw [mg_nat0]; rfl
        grind
      refine ⟨1, -1, by decide, by decide, top_of (by rw [B32]; omega) (by decide), ?_⟩
      rw [hv, h6, ← p2_mg, p2_m1]; grind
  obtain ⟨mc, ec, k1, k2, k3, k4⟩ := key
  rw [k4]
  exact add_exact hN nm_h32 k1 k2 k3 (by rw [fv_h32]; exact k4)

/-- the last word below 0.5 -/
theorem last_read {x : Nat} (hx : Nm .f32 x) (h1 : 1 / 2 - p2 (-24) < fv .f32 x) (h2 : fv .f32 x < 1 / 2) : FloatKind.f32.format.read x = FloatKind.f32.format.read 1056964607 := by
  have hc : FloatKind.f32.format.read 1056964607 = .number false 16777215 (-25) := by decide
  have p24 : p2 (-24) = 1 / 16777216 := by decide +kernel
  have p25 : p2 (-25) = 1 / 33554432 := by decide +kernel
  have p2m2 : p2 (-2) = 1 / 4 := by decide +kernel
  rw [p24] at h1
  obtain ⟨s, m, e, hr⟩ := hx
  obtain ⟨b1, b2, _⟩ := read32_e x hr
  have hg := mg_nonneg m e
  have hs : s = false := by
    cases s
    · rfl
    · unfold fv at h1; rw [hr, vd_true] at h1; exfalso; grind
  subst hs
  have hv : fv .f32 x = mg m e := by unfold fv; rw [hr]; rfl
  rw [hv] at h1 h2
  have he : -26 < e := by
    have := p2_lt (e := e) (E := -2) b1 (by rw [p2m2]; grind)
    omega
  have he2 : e = -25 := by
    obtain ⟨_, c⟩ := read_cases FloatKind.f32.format hr
    have hB : FloatKind.f32.format.binade = 8388608 := by decide
    have hL : FloatKind.f32.format.leastPlace = -149 := by decide
    rcases c with ⟨_, _, x3⟩ | ⟨x1, _, _⟩
    · omega
    · refine Classical.byContradiction fun hcc => ?_
      have h3 : mg 8388608 (-24) ≤ mg m e := Rat.le_trans (mg_mono (show (-24 : Int) ≤ e by omega)) (mg_le.2 (by omega))
      have h4 : mg 8388608 (-24) = 1 / 2 := by decide +kernel
      rw [h4] at h3; grind
  subst he2
  have hm : m = 16777215 := by
    have h3 : mg 16777214 (-25) = 1 / 2 - 1 / 16777216 := by decide +kernel
    refine Nat.le_antisymm (by omega) ?_
    refine Classical.byContradiction fun hcc => ?_
    have h4 : mg m (-25) ≤ mg 16777214 (-25) := mg_le.2 (by omega)
    rw [h3] at h4; grind
  rw [hr, hc, hm]

theorem wrap_in {x : Nat} (hx : Nm .f32 x) (h1 : -1 ≤ fv .f32 x) (h2 : fv .f32 x ≤ 1) : InH (p_spec_l02Wrap R x) := by
  unfold p_spec_l02Wrap p_math_Floor
  by_cases hlast : 1 / 2 - p2 (-24) < fv .f32 x ∧ fv .f32 x < 1 / 2
  · have hr := last_read hx hlast.1 hlast.2
    rw [add_read hr, sub_read hr]
    have e1 : (bif R.cmp BinOp.geq FloatKind.f32 (R.bin BinOp.sub FloatKind.f32 1056964607 (R.nar (R.floor (R.wid (R.bin BinOp.add FloatKind.f32 1056964607 1056964608))))) 1056964608 then 3204448256 else R.bin BinOp.sub FloatKind.f32 1056964607 (R.nar (R.floor (R.wid (R.bin BinOp.add FloatKind.f32 1056964607 1056964608))))) = 3204448256 := by decide +kernel
    rw [e1]
    exact ⟨nm_nh32, by rw [fv_nh32]; exact Rat.le_refl, by rw [fv_nh32]; decide +kernel⟩
  have ha := rd_add hx nm_h32
  have hac := rc_add hx nm_h32
  rw [fv_h32] at ha hac
  obtain ⟨hNr, _, _⟩ := ha.le 1 (by decide) (by decide) (by rw [p2_1']; grind) (by rw [p2_1']; grind)
  have r15 := hac.le _ nm_a32 hNr (by rw [fv_a32]; grind)
  rw [fv_a32] at r15
  have r05 := hac.ge _ nm_nh32 hNr (by rw [fv_nh32]; grind)
  rw [fv_nh32] at r05
  have hlow := fun h => low_exact hx h1 h
  have hmid : fv .f32 x ≤ 1 / 2 - p2 (-24) → fv .f32 (R.bin .add .f32 x 1056964608) < 1 := by
    intro h
    have := hac.le _ nm_b32 hNr (by rw [fv_b32]; grind)
    rw [fv_b32] at this
    have := p2_pos (-24)
    grind
  generalize R.bin .add .f32 x 1056964608 = r at *
  obtain ⟨f1, f2, f3, f4, f5⟩ := floor_val hNr (by grind) (by grind)
  generalize R.nar (R.floor (R.wid r)) = n at *
  have hd : -(1 / 2) ≤ fv .f32 x - fv .f32 n := by
    by_cases c1 : fv .f32 x < -(1 / 2)
    · have := hlow c1; grind
    · by_cases c2 : fv .f32 x ≤ 1 / 2 - p2 (-24)
      · have := f4 (hmid c2); grind
      · have c3 : 1 / 2 ≤ fv .f32 x := by
          refine Classical.byContradiction fun hc => hlast ⟨by grind, by grind⟩
        have := f5 (by grind); grind
  have hs := rd_sub hx f1
  have hsc := rc_sub hx f1
  obtain ⟨hNs, _, _⟩ := hs.le 3 (by decide) (by decide) (by rw [p2_3]; grind) (by rw [p2_3]; grind)
  have g1 := hsc.ge _ nm_nh32 hNs (by rw [fv_nh32]; exact hd)
  rw [fv_nh32] at g1
  rw [geq_nm hNs nm_h32, fv_h32]
  by_cases c : 1 / 2 ≤ fv .f32 (R.bin .sub .f32 x n)
  · rw [decide_eq_true c, cond_true]
    exact ⟨nm_nh32, by rw [fv_nh32]; exact Rat.le_refl, by rw [fv_nh32]; decide +kernel⟩
  · rw [decide_eq_false c, cond_false]
    exact ⟨hNs, g1, by grind⟩
end Go.Dv
