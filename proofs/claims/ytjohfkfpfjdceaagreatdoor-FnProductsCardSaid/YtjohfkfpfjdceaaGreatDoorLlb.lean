/- The plain law of FnNumbers. -/
import Derived.Test.YtjohfkfpfjdceaaGreatDoorLla
import Derived.Test.YtjohfkfpfjdceaaGreatDoorLre
import Derived.Test.YtjohfkfpfjdceaaGreatDoorLq
import Derived.Test.YtjohfkfpfjdceaaGreatDoorWlc

set_option linter.unusedSimpArgs false
set_option linter.unusedVariables false
namespace Go.Dv
open Go.Cv Ieee

theorem r_same (a b : Nat) : r_spec_SameNumber R a b = true := by
  have key : ∀ x, r_spec_l01Bits R x = true := fun x => by
    unfold r_spec_l01Bits
    rw [cmp_neq]
    cases R.cmp .eql .f32 x x <;> rfl
  unfold r_spec_SameNumber r_spec_l01Same
  rw [key, key]; rfl
theorem same_refl (a : Nat) : p_spec_SameNumber R a a = true := by
  unfold p_spec_SameNumber p_spec_l01Same; simp
theorem same_bw {a b : Nat} (ha : a < 4294967296) (hb : b < 4294967296) : p_spec_SameNumber R a b = decide (bw a = bw b) := by
  unfold p_spec_SameNumber p_spec_l01Same
  rw [(l01Bits_eq a ha).1, (l01Bits_eq b hb).1]
  by_cases h : bw a = bw b
  · rw [h]; simp
  · rw [decide_eq_false h]
    have : ¬ ((bw a : Int) = (bw b : Int)) := by omega
    simpa using this

theorem eql_nan {a : Nat} (h : isNan .f32 a = true) : R.cmp .eql .f32 a a = false := by
  obtain ⟨s, t, e⟩ := nan_read h
  show (fcmp .eql .f32 a a).getD false = false
  simp only [fcmp, feq, Option.getD_some, Ieee.Format.order]
  rw [e]; rfl
theorem not_nan_of {a : Nat} (h : R.cmp .eql .f32 a a = true) : isNan .f32 a = false := by
  cases hn : isNan .f32 a
  · rfl
  · rw [eql_nan hn] at h; cases h
theorem bw_cn (x : Nat) : bw (cn .f32 (bw x)) = bw x := by
  cases h : R.cmp .eql .f32 x x
  · have e : bw x = 2143289344 := by unfold bw; rw [h]; rfl
    rw [e]
    decide
  · have e : bw x = x := by unfold bw; rw [h]; rfl
    rw [e, cn_of_not (not_nan_of h), e]
theorem bw_of_nan {x : Nat} (h : isNan .f32 x = true) : bw x = 2143289344 := by unfold bw; rw [eql_nan h]; rfl

theorem nar_inf (s : Bool) : R.narOk (FloatKind.f64.format.write (.infinity s)) = true ∧ R.nar (FloatKind.f64.format.write (.infinity s)) = FloatKind.f32.format.word s FloatKind.f32.format.infRung := by
  cases s <;> decide
/-- what is widened is narrowed back -/
theorem narrow_wid {x : Nat} (hx : x < 4294967296) : R.narOk (R.wid x) = true ∧ bw (R.nar (R.wid x)) = bw x := by
  rcases nm_dec .f32 x with h | h
  · obtain ⟨s, m, e, hr⟩ := h
    obtain ⟨m', e', h1, h2, h3, h4, h5⟩ := wid_num hr
    have ht := (read_fits .f32 hr).2.2
    obtain ⟨m1, e1, h6, h7⟩ := nar_exact h1 h3 h4 ht h2
    refine ⟨narOk_of fun s'' m'' e'' hr'' => ?_, ?_⟩
    · rw [h1] at hr''; cases hr''
      exact ⟨m, e, by rw [h2]; exact Rat.le_refl, by omega, h4, ht⟩
    · have hc := (cw_nar (R.wid x)).1
      rw [word_inj FloatKind.f32.format (by rw [sign32]; exact hc) (by rw [sign32]; exact hx) h6 hr h7]
  · rcases not_nm h with h | ⟨s, h⟩
    · rw [wid_nan h, bw_of_nan h]
      decide
    · rw [wid_infw h]
      refine ⟨(nar_inf s).1, ?_⟩
      rw [(nar_inf s).2, ← inf_word FloatKind.f32.format (by rw [sign32]; exact hx) h]

/-! ### numbers that are flushed -/
theorem frombits_ok {x : Nat} (hx : x < 4294967296) : r_impl_FromBits R (p_impl_BitsOf R x) = true ∧ p_impl_FromBits R (p_impl_BitsOf R x) = (cn .f32 (bw x), true) := by
  obtain ⟨h1, h2, h3⟩ := bits_eq x hx
  rw [h1]
  have hw : p_impl_within R (bw x : Int) 0 4294967295 = true := by
    unfold p_impl_within
    have a : decide ((0 : Int) ≤ (bw x : Int)) = true := decide_eq_true (by omega)
    have b : decide ((bw x : Int) ≤ 4294967295) = true := decide_eq_true (by omega)
    simp only [a, b, cond_true]
  have e : IntKind.u32.wrap (bw x : Int) = (bw x : Int) := wrap32 (by omega) (by omega)
  unfold r_impl_FromBits p_impl_FromBits p_math_Float32frombits
  rw [hw, e, decide_eq_true (by omega), decide_eq_true (by omega)]
  exact ⟨rfl, rfl⟩

/-! ### sums -/
/-! ### texts that are read back -/
theorem cutG_free (c : UInt8) : ∀ (w cur : List UInt8), (∀ b ∈ w, ¬ b = c) → cutG c cur w = [cur ++ w]
  | [], cur, _ => by show [cur] = _; rw [List.append_nil]
  | b :: r, cur, h => by
    rw [cutG_miss (h b (by simp)), cutG_free c r _ (fun x hx => h x (by simp [hx])), List.append_assoc]; rfl
theorem cutG_word (c : UInt8) (t : List UInt8) : ∀ (w cur : List UInt8), (∀ b ∈ w, ¬ b = c) → cutG c cur (w ++ c :: t) = (cur ++ w) :: cutG c [] t
  | [], cur, _ => by rw [List.nil_append, cutG_hit, List.append_nil]
  | b :: r, cur, h => by
    rw [List.cons_append, cutG_miss (h b (by simp)), cutG_word c t r _ (fun x hx => h x (by simp [hx])), List.append_assoc]; rfl
theorem join_one (w : List UInt8) (s : List UInt8) : Lib.join [w] s = w := by simp [Lib.join, List.intercalate]
theorem join_two (w v : List UInt8) (r : List (List UInt8)) (s : List UInt8) : Lib.join (w :: v :: r) s = w ++ s ++ Lib.join (v :: r) s := by
  simp [Lib.join, List.intercalate]
theorem cutG_join (c : UInt8) : ∀ (ws : List (List UInt8)), ws ≠ [] → (∀ w ∈ ws, ∀ b ∈ w, ¬ b = c) → cutG c [] (Lib.join ws [c]) = ws
  | [], h, _ => absurd rfl h
  | [w], _, hw => by rw [join_one, cutG_free c w [] (hw w (by simp))]; rfl
  | w :: v :: r, _, hw => by
    rw [join_two, List.append_assoc, List.singleton_append, cutG_word c _ w [] (hw w (by simp)), cutG_join c (v :: r) (by simp) (fun x hx => hw x (by simp [hx]))]; rfl
theorem join_len (n : Nat) (c : UInt8) : ∀ (ws : List (List UInt8)), ws ≠ [] → (∀ w ∈ ws, w.length = n) → (Lib.join ws [c]).length + 1 = (n + 1) * ws.length
  | [], h, _ => absurd rfl h
  | [w], _, hw => by rw [join_one, hw w (by simp)]; simp
  | w :: v :: r, _, hw => by
    have h1 := join_len n c (v :: r) (by simp) (fun x hx => hw x (by simp [hx]))
    rw [join_two, List.length_append, List.length_append, hw w (by simp)]
    rw [List.length_cons (a := w), Nat.mul_succ]
    simp only [List.length_cons, List.length_nil] at h1 ⊢
    omega

theorem hd_ne (d : Nat) (h : d < 16) : ¬ UInt8.ofNat (hd d).toNat = 44 := by
  have : ∀ d < 16, ¬ UInt8.ofNat (hd d).toNat = 44 := by decide
  exact this d h
theorem tx_free (x : Nat) : ∀ b ∈ (tx x).data.toList, ¬ b = 44 := by
  intro b hb
  unfold tx p_bytes hex8 at hb
  simp at hb
  rcases hb with h | h | h | h | h | h | h | h <;> (rw [h]; exact hd_ne _ (Nat.mod_lt _ (by decide)))

theorem gw_tx (x : Nat) (hx : x < 4294967296) : gw (tx x) = some (cn .f32 (bw x)) := by
  obtain ⟨h1, h2, _⟩ := tx_inj_read x hx _ rfl
  unfold gw
  rw [if_pos h1, h2]
  simp only
  rw [if_pos (bw_cn x)]
theorem at_ok {l : List Int} (hb : By l) (i : Nat) (n : Nat) (hn : 2 ≤ n) (hn2 : n ≤ 1000000) (hi : i ≤ 1000000) : r_laws_b10At R l (i : Int) (n : Int) = true ∧ ∃ k : Nat, k < n ∧ p_laws_b10At R l (i : Int) (n : Int) = (k : Int) := by
  have h1 : decide ((n : Int) ≤ 1) = false := df (by omega)
  have h2 : ((n : Int) == 0) = false := by
    have : ¬ (n : Int) = 0 := by omega
    simpa using this
  unfold r_laws_b10At p_laws_b10At
  rw [h1, h2]
  have key : ∀ x : Int, 0 ≤ x → ∃ k : Nat, k < n ∧ x.tmod (n : Int) = (k : Int) := fun x hx => by
    obtain ⟨t1, t2⟩ := tmod_in (x := x) (k := (n : Int)) hx (by omega)
    exact ⟨(x.tmod (n : Int)).toNat, by omega, by omega⟩
  by_cases h3 : (i : Int) < (l.length : Int)
  · rw [decide_eq_true h3, decide_eq_true (show 0 ≤ (i : Int) by omega)]
    refine ⟨rfl, ?_⟩
    have hg := by_getD hb ((i : Int)).toNat
    have := key (IntKind.i64.wrap (l.getD ((i : Int)).toNat 0)) (by rw [wrap_small (by omega) (by omega)]; exact hg.1)
    exact this
  · rw [decide_eq_false h3]
    refine ⟨rfl, ?_⟩
    have := key (IntKind.i64.wrap (IntKind.i64.wrap ((i : Int) * 37) + 11)) (by rw [wrap_small (i := (i : Int) * 37) (by omega) (by omega), wrap_small (by omega) (by omega)]; omega)
    exact this

end Go.Dv
