/- Ll, Lk: merged by merge.py. -/
import Derived.Test.YtbgpobiaaebbeaaGreatNc
import Derived.Test.YtbgpobiaaebbeaaGreatWh
import Derived.Test.YtbgpobiaaebbeaaGreatLo
import Derived.Test.YtbgpobiaaebbeaaGreatLw

/- The logarithm's loops end. -/
namespace Go.Dv
open Go.Cv

theorem nm_15 : Nm .f64 4609434218613702656 := ⟨_, _, _, rfl⟩
theorem fv_15 : fv .f64 4609434218613702656 = 3 / 2 := by decide +kernel
theorem nm_2 : Nm .f64 4611686018427387904 := ⟨_, _, _, rfl⟩
theorem fv_2 : fv .f64 4611686018427387904 = 2 := by decide +kernel

/-- halving comes to an end -/
theorem log_down (j : Int) (hj : j ≤ -1) : ∀ (k : Nat) (y : Nat) (e : Int) (v : Nat), k ≤ 200 → Nm .f64 y → 0 < fv .f64 y → p2 j ≤ fv .f64 y → fv .f64 y ≤ p2 k → -1000 ≤ e → e + k ≤ 1000 →
    ∃ y' e', W_spec_l01LogWide_0 R (y, e, v, ()) = some (y', e', v, ()) ∧ Nm .f64 y' ∧ 0 < fv .f64 y' ∧ fv .f64 y' < 3 / 2 ∧ p2 j ≤ fv .f64 y' ∧ e ≤ e' ∧ e' ≤ e + k := by
  intro k
  have hst : ∀ y e v, st_spec_l01LogWide_0 R y e v = brT (R.cmp .geq .f64 y 4609434218613702656) (some (.inl (R.bin .quo .f64 y 4611686018427387904, (IntKind.i64.wrap (e + 1), (v, ()))))) (some (.inr (y, (e, (v, ()))))) := fun _ _ _ => rfl
  induction k with
  | zero =>
    intro y e v _ hn h0 hlow h1 h2 h3
    have hp : p2 ((0 : Nat) : Int) = 1 := p2_zero
    rw [hp] at h1
    have hc : R.cmp .geq .f64 y 4609434218613702656 = false := by rw [geq_nm hn nm_15, fv_15]; exact decide_eq_false (by grind)
    refine ⟨y, e, runW_out ?_, hn, h0, by grind, hlow, Int.le_refl _, by omega⟩
    show st_spec_l01LogWide_0 R y e v = _
    rw [hst, hc]; rfl
  | succ k ih =>
    intro y e v hk hn h0 hlow h1 h2 h3
    cases hc : R.cmp .geq .f64 y 4609434218613702656
    · rw [geq_nm hn nm_15, fv_15] at hc
      have hc' := of_decide_eq_false hc
      refine ⟨y, e, runW_out ?_, hn, h0, by grind, hlow, Int.le_refl _, by omega⟩
      show st_spec_l01LogWide_0 R y e v = _
      rw [hst, geq_nm hn nm_15, fv_15, hc]; rfl
    · have hc2 := hc
      rw [geq_nm hn nm_15, fv_15] at hc2
      have hge := of_decide_eq_true hc2
      have hr := rd_quo hn nm_2 (by rw [fv_2]; decide)
      rw [fv_2] at hr
      have hp : p2 ((k + 1 : Nat) : Int) = p2 (k : Int) + p2 (k : Int) := p2_succ k
      obtain ⟨hN, hl, _⟩ := hr.le (k : Int) (by show (-1074 : Int) ≤ _; omega) (by show _ ≤ (1023 : Int); omega) (by grind) (by grind)
      have h12 : p2 (-1) = 1 / 2 := by decide +kernel
      have hg := hr.ge (-1) (by decide) hN (by rw [h12]; grind)
      rw [h12] at hg
      have hpos : 0 < fv .f64 (R.bin .quo .f64 y 4611686018427387904) := by
        grind
      have hmj := p2_mono hj
      obtain ⟨y', e', r1, r2, r3, r4, r7, r5, r6⟩ := ih (R.bin .quo .f64 y 4611686018427387904) (e + 1) v (by omega) hN hpos (by rw [h12] at hmj; grind) hl (by omega) (by omega)
      refine ⟨y', e', ?_, r2, r3, r4, r7, by omega, by omega⟩
      rw [← r1]
      refine runW_on ?_
      show st_spec_l01LogWide_0 R y e v = _
      rw [hst, hc, wrap_small (by omega) (by omega)]; rfl

theorem nm_75 : Nm .f64 4604930618986332160 := ⟨_, _, _, rfl⟩
theorem fv_75 : fv .f64 4604930618986332160 = 3 / 4 := by decide +kernel

/-- doubling comes to an end -/
theorem log_up : ∀ (k : Nat) (y : Nat) (e : Int) (v : Nat), k ≤ 200 → Nm .f64 y → p2 (-(k : Int)) ≤ fv .f64 y → fv .f64 y ≤ 2 → e ≤ 1000 → -1000 ≤ e - k →
    ∃ y' e', W_spec_l01LogWide_1 R (y, e, v, ()) = some (y', e', v, ()) ∧ Nm .f64 y' ∧ 3 / 4 ≤ fv .f64 y' ∧ fv .f64 y' ≤ 2 ∧ e' ≤ e ∧ e - k ≤ e' := by
  intro k
  have hst : ∀ y e v, st_spec_l01LogWide_1 R y e v = brT (R.cmp .lss .f64 y 4604930618986332160) (some (.inl (R.bin .mul .f64 y 4611686018427387904, (IntKind.i64.wrap (e - 1), (v, ()))))) (some (.inr (y, (e, (v, ()))))) := fun _ _ _ => rfl
  induction k with
  | zero =>
    intro y e v _ hn h0 h1 h2 h3
    have hp : p2 (-((0 : Nat) : Int)) = 1 := p2_zero
    rw [hp] at h0
    have hc : R.cmp .lss .f64 y 4604930618986332160 = false := by rw [lss_nm hn nm_75, fv_75]; exact decide_eq_false (by grind)
    refine ⟨y, e, runW_out ?_, hn, by grind, h1, Int.le_refl _, by omega⟩
    show st_spec_l01LogWide_1 R y e v = _
    rw [hst, hc]; rfl
  | succ k ih =>
    intro y e v hk hn h0 h1 h2 h3
    cases hc : R.cmp .lss .f64 y 4604930618986332160
    · have hc2 := hc
      rw [lss_nm hn nm_75, fv_75] at hc2
      have hc' := of_decide_eq_false hc2
      refine ⟨y, e, runW_out ?_, hn, by grind, h1, Int.le_refl _, by omega⟩
      show st_spec_l01LogWide_1 R y e v = _
      rw [hst, hc]; rfl
    · have hc2 := hc
      rw [lss_nm hn nm_75, fv_75] at hc2
      have hlt := of_decide_eq_true hc2
      have hr := rd_mul hn nm_2
      rw [fv_2] at hr
      have hp := p2_succ (-((k + 1 : Nat) : Int))
      have e1 : -((k + 1 : Nat) : Int) + 1 = -(k : Int) := by omega
      rw [e1] at hp
      have hpp := p2_pos (-((k + 1 : Nat) : Int))
      have h21 : p2 1 = 2 := by decide +kernel
      obtain ⟨hN, hl, _⟩ := hr.le 1 (by decide) (by decide) (by rw [h21]; grind) (by rw [h21]; grind)
      rw [h21] at hl
      have hg := hr.ge (-(k : Int)) (by show (-1074 : Int) ≤ _; omega) hN (by grind)
      obtain ⟨y', e', r1, r2, r3, r4, r5, r6⟩ := ih (R.bin .mul .f64 y 4611686018427387904) (e - 1) v (by omega) hN hg hl (by omega) (by omega)
      refine ⟨y', e', ?_, r2, r3, r4, by omega, by omega⟩
      rw [← r1]
      refine runW_on ?_
      show st_spec_l01LogWide_1 R y e v = _
      rw [hst, hc, wrap_small (by omega) (by omega)]; rfl

theorem log_runs {y : Nat} (hn : Nm .f64 y) (hlo : p2 (-150) ≤ fv .f64 y) (hhi : fv .f64 y ≤ p2 130) : ∃ y0 e0 y1 e1, W_spec_l01LogWide_0 R (y, 0, 0, ()) = some (y0, e0, 0, ()) ∧ W_spec_l01LogWide_1 R (y0, e0, 0, ()) = some (y1, e1, 0, ()) ∧
    Nm .f64 y1 ∧ 3 / 4 ≤ fv .f64 y1 ∧ fv .f64 y1 ≤ 2 ∧ -300 ≤ e1 ∧ e1 ≤ 300 := by
  have h0 := p2_pos (-150)
  obtain ⟨y0, e0, a1, a2, a3, a4, a5, a6, a7⟩ := log_down (-150) (by decide) 130 y 0 0 (by decide) hn (by grind) hlo hhi (by decide) (by decide)
  obtain ⟨y1, e1, b1, b2, b3, b4, b5, b6⟩ := log_up 150 y0 e0 0 (by decide) a2 a5 (by grind) (by omega) (by omega)
  exact ⟨y0, e0, y1, e1, a1, b1, b2, b3, b4, by omega, by omega⟩
end Go.Dv

/- The plain law of the logarithm. -/
namespace Go.Dv
open Go.Cv

theorem log_same (a : Nat) (h : R.cmp .neq .f64 (R.wid a) (R.wid a) = false) (h0 : R.cmp .lss .f64 (R.wid a) 0 = false) (h1 : R.cmp .eql .f64 (R.wid a) 0 = false) (h2 : p_math_IsInf R (R.wid a) 1 = false) : p_impl_logarithm R a = p_spec_l01LogWide R (R.wid a) := by
  unfold p_spec_l01LogWide
  rw [h, h0, h1, h2]
  rfl

theorem log_den : ∀ k < 13, Nm .f64 (R.ofi .f64 (Int.ofNat (2 * k + 1))) ∧ p2 0 ≤ fv .f64 (R.ofi .f64 (Int.ofNat (2 * k + 1))) := by decide +kernel
theorem log_exp : ∀ k : Nat, k < 601 → Nm .f64 (R.ofi .f64 ((k : Int) - 300)) ∧ fv .f64 (R.ofi .f64 ((k : Int) - 300)) ≤ p2 9 ∧ -(fv .f64 (R.ofi .f64 ((k : Int) - 300))) ≤ p2 9 := by decide +kernel

theorem log_term {u q c : Nat} {E : Int} (hu : Bd u 4) (hq : Bd q E) (h0 : 0 ≤ E) (h1 : E ≤ 100) (hc : Nm .f64 c ∧ p2 0 ≤ fv .f64 c) : Bd (R.bin .add .f64 (R.bin .quo .f64 4607182418800017408 c) (R.bin .mul .f64 u q)) (E + 5) := by
  have a1 : Bd (R.bin .quo .f64 4607182418800017408 c) (0 - 0) := bd_quo bd_one hc.1 hc.2 (by decide) (by decide)
  have a2 : Bd (R.bin .mul .f64 u q) (4 + E) := bd_mul hu hq (by omega) (by omega)
  have := bd_add (bd_mono a1 (show (0 - 0 : Int) ≤ 4 + E by omega)) a2 (by omega) (by omega)
  rw [show E + 5 = 4 + E + 1 by omega]; exact this

theorem bd_two : Bd 4611686018427387904 1 := ⟨nm_2, by decide +kernel, by decide +kernel⟩
theorem bd_ln2 : Bd 4604418534313441775 0 := ⟨⟨_, _, _, rfl⟩, by decide +kernel, by decide +kernel⟩
theorem ofi_exp {e : Int} (h1 : -300 ≤ e) (h2 : e ≤ 300) : Bd (R.ofi .f64 e) 9 := by
  have := log_exp (e + 300).toNat (by omega)
  have e1 : (((e + 300).toNat : Nat) : Int) - 300 = e := by omega
  rw [e1] at this; exact this

/-- the share of a number near one -/
theorem log_share {y : Nat} (hn : Nm .f64 y) (h1 : 3 / 4 ≤ fv .f64 y) (h2 : fv .f64 y ≤ 2) : Bd (R.bin .quo .f64 (R.bin .sub .f64 y 4607182418800017408) (R.bin .add .f64 y 4607182418800017408)) 2 := by
  have h21 : p2 1 = 2 := by decide +kernel
  have by1 : Bd y 1 := ⟨hn, by rw [h21]; exact h2, by rw [h21]; grind⟩
  have o1 : Bd 4607182418800017408 1 := bd_mono bd_one (by decide)
  have a1 := bd_sub by1 o1 (by decide) (by decide)
  have a2 := bd_add by1 o1 (by decide) (by decide)
  have hr := rd_add hn bd_one.1
  have hge := hr.ge 0 (by decide) a2.1 (by rw [p2_zero, fv_one]; grind)
  exact bd_quo a1 a2.1 hge (by decide) (by decide)

/-- a positive float32: its worth -/
theorem pos_range {a : Nat} (h : Nm .f32 a) (hp : 0 < fv .f32 a) : Nm .f64 (R.wid a) ∧ p2 (-150) ≤ fv .f64 (R.wid a) ∧ fv .f64 (R.wid a) ≤ p2 130 := by
  obtain ⟨h1, h2⟩ := wid_nm h
  obtain ⟨s, m, e, hr⟩ := h
  obtain ⟨_, _, _, _, hm, he1, he2⟩ := wid_num hr
  have hv : fv .f32 a = if s then -(mg m e) else mg m e := by unfold fv; rw [hr]; rfl
  have hn := mg_nonneg m e
  rw [h2]
  cases s
  · have hv : fv .f32 a = mg m e := hv
    have hm0 : 1 ≤ m := by
      rcases Nat.eq_zero_or_pos m with h0 | h0
      · subst h0
        have : mg 0 e = 0 := by unfold mg; exact Rat.zero_mul _
        rw [hv, this] at hp; exact absurd hp (by decide)
      · exact h0
    have a1 : mg 1 (-150) ≤ mg 1 e := mg_mono (by omega)
    have a2 : mg 1 e ≤ mg m e := mg_le.2 hm0
    have a3 : mg m e ≤ mg (2 ^ 24) e := mg_le.2 (by omega)
    have a4 : mg (2 ^ 24) e ≤ mg (2 ^ 24) 104 := mg_mono he2
    have b1 : mg 1 (-150) = p2 (-150) := by unfold mg; exact Rat.one_mul _
    have b2 : mg (2 ^ 24) 104 ≤ p2 130 := by decide +kernel
    refine ⟨h1, ?_, ?_⟩
    · rw [hv, ← b1]; exact Rat.le_trans a1 a2
    · rw [hv]; exact Rat.le_trans a3 (Rat.le_trans a4 b2)
  · have hv : fv .f32 a = -(mg m e) := hv
    exact absurd hp (by rw [hv]; grind)

theorem log_last {s : Nat} {e : Int} (hs : Bd s 2) (h1 : -300 ≤ e) (h2 : e ≤ 300) : R.narOk (R.bin BinOp.add FloatKind.f64 (R.bin BinOp.mul FloatKind.f64 4611686018427387904 (R.bin BinOp.mul FloatKind.f64 s (R.bin BinOp.add FloatKind.f64 (R.bin BinOp.quo FloatKind.f64 4607182418800017408 (R.ofi FloatKind.f64 (Int.ofNat 1))) (R.bin BinOp.mul FloatKind.f64 (R.bin BinOp.mul FloatKind.f64 s s) (R.bin BinOp.add FloatKind.f64 (R.bin BinOp.quo FloatKind.f64 4607182418800017408 (R.ofi FloatKind.f64 (Int.ofNat 3))) (R.bin BinOp.mul FloatKind.f64 (R.bin BinOp.mul FloatKind.f64 s s) (R.bin BinOp.add FloatKind.f64 (R.bin BinOp.quo FloatKind.f64 4607182418800017408 (R.ofi FloatKind.f64 (Int.ofNat 5))) (R.bin BinOp.mul FloatKind.f64 (R.bin BinOp.mul FloatKind.f64 s s) (R.bin BinOp.add FloatKind.f64 (R.bin BinOp.quo FloatKind.f64 4607182418800017408 (R.ofi FloatKind.f64 (Int.ofNat 7))) (R.bin BinOp.mul FloatKind.f64 (R.bin BinOp.mul FloatKind.f64 s s) (R.bin BinOp.add FloatKind.f64 (R.bin BinOp.quo FloatKind.f64 4607182418800017408 (R.ofi FloatKind.f64 (Int.ofNat 9))) (R.bin BinOp.mul FloatKind.f64 (R.bin BinOp.mul FloatKind.f64 s s) (R.bin BinOp.add FloatKind.f64 (R.bin BinOp.quo FloatKind.f64 4607182418800017408 (R.ofi FloatKind.f64 (Int.ofNat 11))) (R.bin BinOp.mul FloatKind.f64 (R.bin BinOp.mul FloatKind.f64 s s) (R.bin BinOp.add FloatKind.f64 (R.bin BinOp.quo FloatKind.f64 4607182418800017408 (R.ofi FloatKind.f64 (Int.ofNat 13))) (R.bin BinOp.mul FloatKind.f64 (R.bin BinOp.mul FloatKind.f64 s s) (R.bin BinOp.add FloatKind.f64 (R.bin BinOp.quo FloatKind.f64 4607182418800017408 (R.ofi FloatKind.f64 (Int.ofNat 15))) (R.bin BinOp.mul FloatKind.f64 (R.bin BinOp.mul FloatKind.f64 s s) (R.bin BinOp.add FloatKind.f64 (R.bin BinOp.quo FloatKind.f64 4607182418800017408 (R.ofi FloatKind.f64 (Int.ofNat 17))) (R.bin BinOp.mul FloatKind.f64 (R.bin BinOp.mul FloatKind.f64 s s) (R.bin BinOp.add FloatKind.f64 (R.bin BinOp.quo FloatKind.f64 4607182418800017408 (R.ofi FloatKind.f64 (Int.ofNat 19))) (R.bin BinOp.mul FloatKind.f64 (R.bin BinOp.mul FloatKind.f64 s s) (R.bin BinOp.add FloatKind.f64 (R.bin BinOp.quo FloatKind.f64 4607182418800017408 (R.ofi FloatKind.f64 (Int.ofNat 21))) (R.bin BinOp.mul FloatKind.f64 (R.bin BinOp.mul FloatKind.f64 s s) (R.bin BinOp.add FloatKind.f64 (R.bin BinOp.quo FloatKind.f64 4607182418800017408 (R.ofi FloatKind.f64 (Int.ofNat 23))) (R.bin BinOp.mul FloatKind.f64 (R.bin BinOp.mul FloatKind.f64 s s) (R.bin BinOp.add FloatKind.f64 (R.bin BinOp.quo FloatKind.f64 4607182418800017408 (R.ofi FloatKind.f64 25)) (R.bin BinOp.mul FloatKind.f64 (R.bin BinOp.mul FloatKind.f64 s s) 0)))))))))))))))))))))))))))) (R.bin BinOp.mul FloatKind.f64 (R.ofi FloatKind.f64 e) 4604418534313441775)) = true := by
  have hu : Bd (R.bin .mul .f64 s s) 4 := bd_mul hs hs (by decide) (by decide)
  have b13 := bd_zero
  have b12 := log_term hu b13 (by decide) (by decide) (log_den 12 (by decide))
  have b11 := log_term hu b12 (by decide) (by decide) (log_den 11 (by decide))
  have b10 := log_term hu b11 (by decide) (by decide) (log_den 10 (by decide))
  have b9 := log_term hu b10 (by decide) (by decide) (log_den 9 (by decide))
  have b8 := log_term hu b9 (by decide) (by decide) (log_den 8 (by decide))
  have b7 := log_term hu b8 (by decide) (by decide) (log_den 7 (by decide))
  have b6 := log_term hu b7 (by decide) (by decide) (log_den 6 (by decide))
  have b5 := log_term hu b6 (by decide) (by decide) (log_den 5 (by decide))
  have b4 := log_term hu b5 (by decide) (by decide) (log_den 4 (by decide))
  have b3 := log_term hu b4 (by decide) (by decide) (log_den 3 (by decide))
  have b2 := log_term hu b3 (by decide) (by decide) (log_den 2 (by decide))
  have b1 := log_term hu b2 (by decide) (by decide) (log_den 1 (by decide))
  have b0 := log_term hu b1 (by decide) (by decide) (log_den 0 (by decide))
  have c1 := bd_mul hs b0 (by decide) (by decide)
  have c2 := bd_mul bd_two c1 (by decide) (by decide)
  have c3 := bd_mul (ofi_exp h1 h2) bd_ln2 (by decide) (by decide)
  exact bd_narOk (bd_add c2 (bd_mono c3 (by decide)) (by decide) (by decide)) (by decide)

/-- of a positive number: both texts come to an end, and what they give narrows -/
theorem log_ok {a : Nat} (h : Nm .f32 a) (hp : 0 < fv .f32 a) : r_impl_logarithm R a = true ∧ (c1_spec_l01LogWide R (R.wid a)).isSome = true ∧ (c2_spec_l01LogWide R (R.wid a)).isSome = true ∧ R.narOk (p_impl_logarithm R a) = true := by
  obtain ⟨h1, h2, h3⟩ := pos_range h hp
  obtain ⟨y0, e0, y1, e1, w0, w1, n1, n2, n3, n4, n5⟩ := log_runs h1 h2 h3
  have c0 : c0_impl_logarithm R a = some (y0, e0, 0, ()) := w0
  have c1 : c1_impl_logarithm R a = some (y1, e1, 0, ()) := by unfold c1_impl_logarithm; rw [c0]; exact w1
  have d0 : c1_spec_l01LogWide R (R.wid a) = some (y0, e0, 0, ()) := w0
  have d1 : c2_spec_l01LogWide R (R.wid a) = some (y1, e1, 0, ()) := by unfold c2_spec_l01LogWide; rw [d0]; exact w1
  refine ⟨by unfold r_impl_logarithm; rw [c0, c1]; rfl, by rw [d0]; rfl, by rw [d1]; rfl, ?_⟩
  have hs : c2_impl_logarithm R a = R.bin .quo .f64 (R.bin .sub .f64 y1 4607182418800017408) (R.bin .add .f64 y1 4607182418800017408) := by unfold c2_impl_logarithm; rw [c1]; rfl
  have := log_last (log_share n1 n2 n3) n4 n5
  unfold p_impl_logarithm
  rw [hs, c1]
  exact this
end Go.Dv
