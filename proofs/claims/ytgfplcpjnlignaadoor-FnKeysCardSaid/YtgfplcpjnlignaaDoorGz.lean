/- Fz, Gk, Gw, Gx: merged by merge.py. -/
import Derived.Test.YtgfplcpjnlignaaDoorGa
import Derived.Test.YtgfplcpjnlignaaDoorQa

/- Words that say the same number are the same; the size of a number. -/
namespace Go.Dv
open Go.Cv
open Ieee

theorem read_cases (f : Format) {a : Nat} {s : Bool} {m : Nat} {e : Int} (h : f.read a = .number s m e) :
    s = (a / f.signWeight % 2 == 1) ∧ ((a % f.signWeight < f.binade ∧ m = a % f.signWeight ∧ e = f.leastPlace) ∨
      (f.binade ≤ m ∧ m < 2 * f.binade ∧ ∃ d : Nat, e = f.leastPlace + d ∧ a % f.signWeight = d * f.binade + m)) := by
  unfold Format.read at h
  have hB : 0 < f.binade := Nat.two_pow_pos _
  simp only at h
  generalize hr : a % f.signWeight = r at *
  by_cases h1 : r < f.binade
  · rw [if_pos h1] at h
    cases h
    exact ⟨rfl, .inl ⟨h1, rfl, rfl⟩⟩
  · rw [if_neg h1] at h
    by_cases h2 : r < f.infRung
    · rw [if_pos h2] at h
      cases h
      have h3 : r % f.binade < f.binade := Nat.mod_lt _ hB
      refine ⟨rfl, .inr ⟨by omega, by omega, r / f.binade - 1, rfl, ?_⟩⟩
      have h4 : 1 ≤ r / f.binade := (Nat.le_div_iff_mul_le hB).2 (by omega)
      have h5 : r / f.binade * f.binade + r % f.binade = r := by rw [Nat.mul_comm]; exact Nat.div_add_mod r f.binade
      have h6 : r / f.binade * f.binade = (r / f.binade - 1) * f.binade + f.binade := by
        rw [← Nat.succ_mul]; congr 1; omega
      omega
    · rw [if_neg h2] at h
      by_cases h3 : r = f.infRung
      · rw [if_pos h3] at h; cases h
      · rw [if_neg h3] at h; cases h

end Go.Dv

/- Bounds of both kinds of floats; what is the same number in other digits; halves. -/
namespace Go.Dv
open Go.Cv
open Ieee

/-- a number no greater than a power of two -/
def Bk (k : FloatKind) (a : Nat) (E : Int) : Prop := Nm k a ∧ fv k a ≤ p2 E ∧ -(fv k a) ≤ p2 E

theorem bk_add {k : FloatKind} {a b : Nat} {E : Int} (ha : Bk k a E) (hb : Bk k b E) (h1 : loP k ≤ E + 1) (h2 : E + 1 ≤ hiP k) : Bk k (R.bin .add k a b) (E + 1) := by
  have := p2_succ E
  have := ha.2.1; have := ha.2.2; have := hb.2.1; have := hb.2.2
  exact (rd_add ha.1 hb.1).le _ h1 h2 (by grind) (by grind)
/-! ### products in both orders -/
/-! ### the same number in other digits -/
/-! ### a difference against a number of few digits -/
end Go.Dv

/- Rounding keeps the order against every word; the cosine is not small between -0.24 and 0.24; an east that is wrapped is one. -/
namespace Go.Dv
open Go.Cv
open Ieee

theorem read_fits (k : FloatKind) {a : Nat} {s : Bool} {m : Nat} {e : Int} (h : k.format.read a = .number s m e) : m ≤ 2 * k.format.binade ∧ loP k ≤ e ∧ mg m e < topOf k.format := by
  have hB : 0 < k.format.binade := Nat.two_pow_pos _
  have hlt : a % k.format.signWeight < k.format.infRung := by
    have h' := h
    unfold Format.read at h'
    simp only at h'
    have hb : k.format.binade ≤ k.format.infRung := by cases k <;> decide
    split at h'
    · rename_i h1; omega
    · split at h'
      · rename_i h2; exact h2
      · split at h' <;> cases h'
  obtain ⟨_, c⟩ := read_cases k.format h
  have hl := least_eq k
  have h3 := exp3 k
  have hr : k.format.infRung = (2 ^ k.format.exponentBits - 1) * k.format.binade := rfl
  have key : ∀ d : Nat, d * k.format.binade + m < k.format.infRung → k.format.binade ≤ m → m < 2 * k.format.binade → mg m (k.format.leastPlace + d) < topOf k.format := by
    intro d h1 h2 h6
    have h4 : (d + 1) * k.format.binade < (2 ^ k.format.exponentBits - 1) * k.format.binade := by rw [Nat.add_mul, Nat.one_mul, ← hr]; omega
    have h5 : d + 1 < 2 ^ k.format.exponentBits - 1 := Nat.lt_of_mul_lt_mul_right h4
    have h8 : k.format.leastPlace + (d : Int) + 1 ≤ k.format.leastPlace + ((2 ^ k.format.exponentBits - 2 : Nat) : Int) := by
      generalize 2 ^ k.format.exponentBits = Z at h5 ⊢
      omega
    have h9 : mg (2 * k.format.binade) (k.format.leastPlace + d) ≤ topOf k.format := by
      rw [mg_double]; exact mg_mono h8
    refine Rat.not_le.1 fun hc => ?_
    have := mg_le.1 (Rat.le_trans h9 hc)
    omega
  rcases c with ⟨x1, x2, x3⟩ | ⟨x1, x2, d, x3, x4⟩
  · refine ⟨by omega, by omega, ?_⟩
    refine top_of (by omega) ?_
    have : loP k + 1 ≤ topE k := by cases k <;> decide
    rw [x3]; omega
  · refine ⟨by omega, by omega, ?_⟩
    rw [x3]; exact key d (by omega) x1 x2

/-- the word n is v, rounded: no word lies between -/
structure Rc (k : FloatKind) (v : Rat) (n : Nat) : Prop where
  le : ∀ c, Nm k c → Nm k n → v ≤ fv k c → fv k n ≤ fv k c
  ge : ∀ c, Nm k c → Nm k n → fv k c ≤ v → fv k c ≤ fv k n

theorem rc_nearest (k : FloatKind) (s : Bool) (m : Nat) (e : Int) : Rc k (vd (.number s m e)) (k.format.nearest s m e) := by
  have up : ∀ mc ec, mc ≤ 2 * k.format.binade → loP k ≤ ec → mg mc ec < topOf k.format → mg m e ≤ mg mc ec → ∀ s' m' e', k.format.read (k.format.nearest s m e) = .number s' m' e' → mg m' e' ≤ mg mc ec := by
    intro mc ec h1 h2 h3 h4 s' m' e' hr
    obtain ⟨m2, e2, r2, h5⟩ := nearest_le k.format (exp3 k) s m e mc ec h1 (by rw [least_eq]; exact h2) h3 h4
    rw [hr] at r2; cases r2; exact h5
  have dn : ∀ mc ec, mc ≤ 2 * k.format.binade → loP k ≤ ec → mg mc ec ≤ mg m e → ∀ s' m' e', k.format.read (k.format.nearest s m e) = .number s' m' e' → mg mc ec ≤ mg m' e' := by
    intro mc ec h1 h2 h4 s' m' e' hr
    have hs := nearest_sign k.format (exp3 k) s m e hr
    subst hs
    exact nearest_ge k.format (exp3 k) s' m e mc ec h1 (by rw [least_eq]; exact h2) h4 hr
  have hg := mg_nonneg m e
  constructor
  · intro c ⟨t, mc, ec, hc⟩ ⟨s', m', e', hn⟩ h
    obtain ⟨f1, f2, f3⟩ := read_fits k hc
    have hs := nearest_sign k.format (exp3 k) s m e hn
    subst hs
    have hgc := mg_nonneg mc ec
    have hg' := mg_nonneg m' e'
    unfold fv at h ⊢
    rw [hc] at h ⊢; rw [hn]
    cases s' <;> cases t <;> simp only [vd_true, vd_false] at h ⊢
    · exact up mc ec f1 f2 f3 h _ _ _ hn
    · have := up mc ec f1 f2 f3 (by grind) _ _ _ hn
      grind
    · grind
    · have := dn mc ec f1 f2 (by grind) _ _ _ hn
      grind
  · intro c ⟨t, mc, ec, hc⟩ ⟨s', m', e', hn⟩ h
    obtain ⟨f1, f2, f3⟩ := read_fits k hc
    have hs := nearest_sign k.format (exp3 k) s m e hn
    subst hs
    have hgc := mg_nonneg mc ec
    have hg' := mg_nonneg m' e'
    unfold fv at h ⊢
    rw [hc] at h ⊢; rw [hn]
    cases s' <;> cases t <;> simp only [vd_true, vd_false] at h ⊢
    · exact dn mc ec f1 f2 h _ _ _ hn
    · grind
    · have := up mc ec f1 f2 f3 (by grind) _ _ _ hn
      grind
    · have := up mc ec f1 f2 f3 (by grind) _ _ _ hn
      grind

theorem rc_add {k : FloatKind} {a b : Nat} (ha : Nm k a) (hb : Nm k b) : Rc k (fv k a + fv k b) (R.bin .add k a b) := by
  obtain ⟨s, m, i, ha⟩ := ha
  obtain ⟨t, n, j, hb⟩ := hb
  obtain ⟨s', m', e', hs, hv⟩ := sum_num s m i t n j
  have : R.bin .add k a b = k.format.nearest s' m' e' := by
    show (k.format.add a b).getD (nanOf k) = _
    unfold Format.add
    rw [ha, hb, hs]; rfl
  rw [this]; unfold fv; rw [ha, hb, ← hv]
  exact rc_nearest k s' m' e'
/-! ### the cosine from below -/
theorem p2_m1 : p2 (-1) = 1 / 2 := by decide +kernel
end Go.Dv

/- An east that is wrapped lies between -0.5 and 0.5. -/
namespace Go.Dv
open Go.Cv
open Ieee

theorem cut_down_pos (n drop : Nat) : Toward.down.cut false n drop = n / 2 ^ drop := by
  rw [← cut_zero_eq false n drop]
  unfold Toward.cut
  simp only [Bool.false_and]
theorem le_cut_down (n drop : Nat) : n ≤ Toward.down.cut true n drop * 2 ^ drop := by
  unfold Toward.cut
  simp only [Nat.one_shiftLeft, Bool.true_and]
  have hg : 2 ^ min drop (n.log2 + 2) ≤ 2 ^ drop := Nat.pow_le_pow_right (by decide) (Nat.min_le_left _ _)
  have hp : 0 < 2 ^ min drop (n.log2 + 2) := Nat.two_pow_pos _
  generalize 2 ^ min drop (n.log2 + 2) = g at *
  have h1 := Nat.div_add_mod n g
  have h2 := Nat.mod_lt n hp
  have key : n ≤ (n / g + (n % g != 0).toNat) * g := by
    by_cases h0 : n % g = 0
    · rw [h0] at h1 ⊢
      rw [Nat.mul_comm] at h1
      show n ≤ (n / g + 0) * g
      rw [Nat.add_zero]; omega
    · have : (n % g != 0) = true := by simp [h0]
      rw [this]
      show n ≤ (n / g + 1) * g
      rw [Nat.add_mul, Nat.mul_comm (n / g)]
      omega
  exact Nat.le_trans key (Nat.mul_le_mul_left _ hg)

end Go.Dv
