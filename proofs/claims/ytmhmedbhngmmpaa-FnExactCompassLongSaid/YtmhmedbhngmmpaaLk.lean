/- The plain law of the logarithm. -/
import Derived.Test.YtmhmedbhngmmpaaLl
import Derived.Test.YtmhmedbhngmmpaaLw
import Derived.Test.YtmhmedbhngmmpaaWh
namespace Go.Dv
open Go.Cv

theorem log_same (a : Nat) (h : R.cmp .neq .f64 (R.wid a) (R.wid a) = false) (h0 : R.cmp .lss .f64 (R.wid a) 0 = false) (h1 : R.cmp .eql .f64 (R.wid a) 0 = false) (h2 : p_math_IsInf R (R.wid a) 1 = false) : p_impl_logarithm R a = p_spec_l01LogWide R (R.wid a) := by
  unfold p_spec_l01LogWide
  rw [h, h0, h1, h2]
  rfl

theorem log_den : ∀ k < 13, Nm .f64 (R.ofi .f64 (Int.ofNat (2 * k + 1))) ∧ p2 0 ≤ fv .f64 (R.ofi .f64 (Int.ofNat (2 * k + 1))) := by decide +kernel
theorem log_exp : ∀ k : Nat, k < 601 → Nm .f64 (R.ofi .f64 ((k : Int) - 300)) ∧ fv .f64 (R.ofi .f64 ((k : Int) - 300)) ≤ p2 9 ∧ -(fv .f64 (R.ofi .f64 ((k : Int) - 300))) ≤ p2 9 := by decide +kernel

theorem log_term {u q c : Nat} {E : Int} (hu : Bd u 4) (hq : Bd q E) (h0 : 0 ≤ E) (h1 : E ≤ 100) (hc : Nm .f64 c ∧ p2 0 ≤ fv .f64 c) : Bd (R.bin .add .f64 (R.bin .quo .f64 4607182418800017408 c) (R.bin .mul .f64 u q)) (E + 5) := by
  have a1 : Bd (R.bin .quo .f64 4607182418800017408 c) (0 - 0) := bd_quo bd_one hc.1 hc.2 (by decide) (by decide)
  have a2 : Bd (R.bin .mul .f64 u q) (4 + E) := bd_mul hu hq (by omega) (by omega)
  have := bd_add (bd_mono a1 (show (0 - 0 : Int) ≤ 4 + E by omega)) a2 (by omega) (by omega)
  rw [show E + 5 = 4 + E + 1 by omega]; exact this

theorem bd_two : Bd 4611686018427387904 1 := ⟨nm_2, by decide +kernel, by decide +kernel⟩
theorem bd_ln2 : Bd 4604418534313441775 0 := ⟨⟨_, _, _, rfl⟩, by decide +kernel, by decide +kernel⟩
theorem ofi_exp {e : Int} (h1 : -300 ≤ e) (h2 : e ≤ 300) : Bd (R.ofi .f64 e) 9 := by
  have := log_exp (e + 300).toNat (by omega)
  have e1 : (((e + 300).toNat : Nat) : Int) - 300 = e := by omega
  rw [e1] at this; exact this

/-- the share of a number near one -/
theorem log_share {y : Nat} (hn : Nm .f64 y) (h1 : 3 / 4 ≤ fv .f64 y) (h2 : fv .f64 y ≤ 2) : Bd (R.bin .quo .f64 (R.bin .sub .f64 y 4607182418800017408) (R.bin .add .f64 y 4607182418800017408)) 2 := by
  have h21 : p2 1 = 2 := by decide +kernel
  have by1 : Bd y 1 := ⟨hn, by rw [h21]; exact h2, by rw [h21]; grind⟩
  have o1 : Bd 4607182418800017408 1 := bd_mono bd_one (by decide)
  have a1 := bd_sub by1 o1 (by decide) (by decide)
  have a2 := bd_add by1 o1 (by decide) (by decide)
  have hr := rd_add hn bd_one.1
  have hge := hr.ge 0 (by decide) a2.1 (by rw [p2_zero, fv_one]; grind)
  exact bd_quo a1 a2.1 hge (by decide) (by decide)

/-- a positive float32: its worth -/
theorem pos_range {a : Nat} (h : Nm .f32 a) (hp : 0 < fv .f32 a) : Nm .f64 (R.wid a) ∧ p2 (-150) ≤ fv .f64 (R.wid a) ∧ fv .f64 (R.wid a) ≤ p2 130 := by
  obtain ⟨h1, h2⟩ := wid_nm h
  obtain ⟨s, m, e, hr⟩ := h
  obtain ⟨_, _, _, _, hm, he1, he2⟩ := wid_num hr
  have hv : fv .f32 a = if s then -(mg m e) else mg m e := by unfold fv; rw [hr]; rfl
  have hn := mg_nonneg m e
  rw [h2]
  cases s
  · have hv : fv .f32 a = mg m e := hv
    have hm0 : 1 ≤ m := by
      rcases Nat.eq_zero_or_pos m with h0 | h0
      · subst h0
        have : mg 0 e = 0 := by unfold mg; exact Rat.zero_mul _
        rw [hv, this] at hp; exact absurd hp (by decide)
      · exact h0
    have a1 : mg 1 (-150) ≤ mg 1 e := mg_mono (by omega)
    have a2 : mg 1 e ≤ mg m e := mg_le.2 hm0
    have a3 : mg m e ≤ mg (2 ^ 24) e := mg_le.2 (by omega)
    have a4 : mg (2 ^ 24) e ≤ mg (2 ^ 24) 104 := mg_mono he2
    have b1 : mg 1 (-150) = p2 (-150) := by unfold mg; exact Rat.one_mul _
    have b2 : mg (2 ^ 24) 104 ≤ p2 130 := by decide +kernel
    refine ⟨h1, ?_, ?_⟩
    · rw [hv, ← b1]; exact Rat.le_trans a1 a2
    · rw [hv]; exact Rat.le_trans a3 (Rat.le_trans a4 b2)
  · have hv : fv .f32 a = -(mg m e) := hv
    exact absurd hp (by rw [hv]; grind)

theorem log_last {s : Nat} {e : Int} (hs : Bd s 2) (h1 : -300 ≤ e) (h2 : e ≤ 300) : R.narOk (R.bin BinOp.add FloatKind.f64 (R.bin BinOp.mul FloatKind.f64 4611686018427387904 (R.bin BinOp.mul FloatKind.f64 s (R.bin BinOp.add FloatKind.f64 (R.bin BinOp.quo FloatKind.f64 4607182418800017408 (R.ofi FloatKind.f64 (Int.ofNat 1))) (R.bin BinOp.mul FloatKind.f64 (R.bin BinOp.mul FloatKind.f64 s s) (R.bin BinOp.add FloatKind.f64 (R.bin BinOp.quo FloatKind.f64 4607182418800017408 (R.ofi FloatKind.f64 (Int.ofNat 3))) (R.bin BinOp.mul FloatKind.f64 (R.bin BinOp.mul FloatKind.f64 s s) (R.bin BinOp.add FloatKind.f64 (R.bin BinOp.quo FloatKind.f64 4607182418800017408 (R.ofi FloatKind.f64 (Int.ofNat 5))) (R.bin BinOp.mul FloatKind.f64 (R.bin BinOp.mul FloatKind.f64 s s) (R.bin BinOp.add FloatKind.f64 (R.bin BinOp.quo FloatKind.f64 4607182418800017408 (R.ofi FloatKind.f64 (Int.ofNat 7))) (R.bin BinOp.mul FloatKind.f64 (R.bin BinOp.mul FloatKind.f64 s s) (R.bin BinOp.add FloatKind.f64 (R.bin BinOp.quo FloatKind.f64 4607182418800017408 (R.ofi FloatKind.f64 (Int.ofNat 9))) (R.bin BinOp.mul FloatKind.f64 (R.bin BinOp.mul FloatKind.f64 s s) (R.bin BinOp.add FloatKind.f64 (R.bin BinOp.quo FloatKind.f64 4607182418800017408 (R.ofi FloatKind.f64 (Int.ofNat 11))) (R.bin BinOp.mul FloatKind.f64 (R.bin BinOp.mul FloatKind.f64 s s) (R.bin BinOp.add FloatKind.f64 (R.bin BinOp.quo FloatKind.f64 4607182418800017408 (R.ofi FloatKind.f64 (Int.ofNat 13))) (R.bin BinOp.mul FloatKind.f64 (R.bin BinOp.mul FloatKind.f64 s s) (R.bin BinOp.add FloatKind.f64 (R.bin BinOp.quo FloatKind.f64 4607182418800017408 (R.ofi FloatKind.f64 (Int.ofNat 15))) (R.bin BinOp.mul FloatKind.f64 (R.bin BinOp.mul FloatKind.f64 s s) (R.bin BinOp.add FloatKind.f64 (R.bin BinOp.quo FloatKind.f64 4607182418800017408 (R.ofi FloatKind.f64 (Int.ofNat 17))) (R.bin BinOp.mul FloatKind.f64 (R.bin BinOp.mul FloatKind.f64 s s) (R.bin BinOp.add FloatKind.f64 (R.bin BinOp.quo FloatKind.f64 4607182418800017408 (R.ofi FloatKind.f64 (Int.ofNat 19))) (R.bin BinOp.mul FloatKind.f64 (R.bin BinOp.mul FloatKind.f64 s s) (R.bin BinOp.add FloatKind.f64 (R.bin BinOp.quo FloatKind.f64 4607182418800017408 (R.ofi FloatKind.f64 (Int.ofNat 21))) (R.bin BinOp.mul FloatKind.f64 (R.bin BinOp.mul FloatKind.f64 s s) (R.bin BinOp.add FloatKind.f64 (R.bin BinOp.quo FloatKind.f64 4607182418800017408 (R.ofi FloatKind.f64 (Int.ofNat 23))) (R.bin BinOp.mul FloatKind.f64 (R.bin BinOp.mul FloatKind.f64 s s) (R.bin BinOp.add FloatKind.f64 (R.bin BinOp.quo FloatKind.f64 4607182418800017408 (R.ofi FloatKind.f64 25)) (R.bin BinOp.mul FloatKind.f64 (R.bin BinOp.mul FloatKind.f64 s s) 0)))))))))))))))))))))))))))) (R.bin BinOp.mul FloatKind.f64 (R.ofi FloatKind.f64 e) 4604418534313441775)) = true := by
  have hu : Bd (R.bin .mul .f64 s s) 4 := bd_mul hs hs (by decide) (by decide)
  have b13 := bd_zero
  have b12 := log_term hu b13 (by decide) (by decide) (log_den 12 (by decide))
  have b11 := log_term hu b12 (by decide) (by decide) (log_den 11 (by decide))
  have b10 := log_term hu b11 (by decide) (by decide) (log_den 10 (by decide))
  have b9 := log_term hu b10 (by decide) (by decide) (log_den 9 (by decide))
  have b8 := log_term hu b9 (by decide) (by decide) (log_den 8 (by decide))
  have b7 := log_term hu b8 (by decide) (by decide) (log_den 7 (by decide))
  have b6 := log_term hu b7 (by decide) (by decide) (log_den 6 (by decide))
  have b5 := log_term hu b6 (by decide) (by decide) (log_den 5 (by decide))
  have b4 := log_term hu b5 (by decide) (by decide) (log_den 4 (by decide))
  have b3 := log_term hu b4 (by decide) (by decide) (log_den 3 (by decide))
  have b2 := log_term hu b3 (by decide) (by decide) (log_den 2 (by decide))
  have b1 := log_term hu b2 (by decide) (by decide) (log_den 1 (by decide))
  have b0 := log_term hu b1 (by decide) (by decide) (log_den 0 (by decide))
  have c1 := bd_mul hs b0 (by decide) (by decide)
  have c2 := bd_mul bd_two c1 (by decide) (by decide)
  have c3 := bd_mul (ofi_exp h1 h2) bd_ln2 (by decide) (by decide)
  exact bd_narOk (bd_add c2 (bd_mono c3 (by decide)) (by decide) (by decide)) (by decide)

/-- of a positive number: both texts come to an end, and what they give narrows -/
theorem log_ok {a : Nat} (h : Nm .f32 a) (hp : 0 < fv .f32 a) : r_impl_logarithm R a = true ∧ (c1_spec_l01LogWide R (R.wid a)).isSome = true ∧ (c2_spec_l01LogWide R (R.wid a)).isSome = true ∧ R.narOk (p_impl_logarithm R a) = true := by
  obtain ⟨h1, h2, h3⟩ := pos_range h hp
  obtain ⟨y0, e0, y1, e1, w0, w1, n1, n2, n3, n4, n5⟩ := log_runs h1 h2 h3
  have c0 : c0_impl_logarithm R a = some (y0, e0, 0, ()) := w0
  have c1 : c1_impl_logarithm R a = some (y1, e1, 0, ()) := by unfold c1_impl_logarithm; rw [c0]; exact w1
  have d0 : c1_spec_l01LogWide R (R.wid a) = some (y0, e0, 0, ()) := w0
  have d1 : c2_spec_l01LogWide R (R.wid a) = some (y1, e1, 0, ()) := by unfold c2_spec_l01LogWide; rw [d0]; exact w1
  refine ⟨by unfold r_impl_logarithm; rw [c0, c1]; rfl, by rw [d0]; rfl, by rw [d1]; rfl, ?_⟩
  have hs : c2_impl_logarithm R a = R.bin .quo .f64 (R.bin .sub .f64 y1 4607182418800017408) (R.bin .add .f64 y1 4607182418800017408) := by unfold c2_impl_logarithm; rw [c1]; rfl
  have := log_last (log_share n1 n2 n3) n4 n5
  unfold p_impl_logarithm
  rw [hs, c1]
  exact this
end Go.Dv
