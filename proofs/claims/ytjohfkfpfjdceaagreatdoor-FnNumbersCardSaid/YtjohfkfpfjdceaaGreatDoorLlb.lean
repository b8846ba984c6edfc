/- The plain law of FnNumbers. -/
import Derived.Test.YtjohfkfpfjdceaaGreatDoorLla
import Derived.Test.YtjohfkfpfjdceaaGreatDoorLre
import Derived.Test.YtjohfkfpfjdceaaGreatDoorZa
import Derived.Test.YtjohfkfpfjdceaaGreatDoorWld

set_option linter.unusedSimpArgs false
set_option linter.unusedVariables false
namespace Go.Dv
open Go.Cv Ieee

theorem r_same (a b : Nat) : r_spec_SameNumber R a b = true := by
  have key : ∀ x, r_spec_l01Bits R x = true := fun x => by
    unfold r_spec_l01Bits
    rw [cmp_neq]
    cases R.cmp .eql .f32 x x <;> rfl
  unfold r_spec_SameNumber r_spec_l01Same
  rw [key, key]; rfl
theorem same_refl (a : Nat) : p_spec_SameNumber R a a = true := by
  unfold p_spec_SameNumber p_spec_l01Same; simp
theorem same_bw {a b : Nat} (ha : a < 4294967296) (hb : b < 4294967296) : p_spec_SameNumber R a b = decide (bw a = bw b) := by
  unfold p_spec_SameNumber p_spec_l01Same
  rw [(l01Bits_eq a ha).1, (l01Bits_eq b hb).1]
  by_cases h : bw a = bw b
  · rw [h]; simp
  · rw [decide_eq_false h]
    have : ¬ ((bw a : Int) = (bw b : Int)) := by omega
    simpa using this

theorem eql_nan {a : Nat} (h : isNan .f32 a = true) : R.cmp .eql .f32 a a = false := by
  obtain ⟨s, t, e⟩ := nan_read h
  show (fcmp .eql .f32 a a).getD false = false
  simp only [fcmp, feq, Option.getD_some, Ieee.Format.order]
  rw [e]; rfl
theorem not_nan_of {a : Nat} (h : R.cmp .eql .f32 a a = true) : isNan .f32 a = false := by
  cases hn : isNan .f32 a
  · rfl
  · rw [eql_nan hn] at h; cases h
theorem bw_cn (x : Nat) : bw (cn .f32 (bw x)) = bw x := by
  cases h : R.cmp .eql .f32 x x
  · have e : bw x = 2143289344 := by unfold bw; rw [h]; rfl
    rw [e]
    decide
  · have e : bw x = x := by unfold bw; rw [h]; rfl
    rw [e, cn_of_not (not_nan_of h), e]
theorem bw_of_nan {x : Nat} (h : isNan .f32 x = true) : bw x = 2143289344 := by unfold bw; rw [eql_nan h]; rfl

theorem nar_inf (s : Bool) : R.narOk (FloatKind.f64.format.write (.infinity s)) = true ∧ R.nar (FloatKind.f64.format.write (.infinity s)) = FloatKind.f32.format.word s FloatKind.f32.format.infRung := by
  cases s <;> decide
/-- what is widened is narrowed back -/
theorem narrow_wid {x : Nat} (hx : x < 4294967296) : R.narOk (R.wid x) = true ∧ bw (R.nar (R.wid x)) = bw x := by
  rcases nm_dec .f32 x with h | h
  · obtain ⟨s, m, e, hr⟩ := h
    obtain ⟨m', e', h1, h2, h3, h4, h5⟩ := wid_num hr
    have ht := (read_fits .f32 hr).2.2
    obtain ⟨m1, e1, h6, h7⟩ := nar_exact h1 h3 h4 ht h2
    refine ⟨narOk_of fun s'' m'' e'' hr'' => ?_, ?_⟩
    · rw [h1] at hr''; cases hr''
      exact ⟨m, e, by rw [h2]; exact Rat.le_refl, by omega, h4, ht⟩
    · have hc := (cw_nar (R.wid x)).1
      rw [word_inj FloatKind.f32.format (by rw [sign32]; exact hc) (by rw [sign32]; exact hx) h6 hr h7]
  · rcases not_nm h with h | ⟨s, h⟩
    · rw [wid_nan h, bw_of_nan h]
      decide
    · rw [wid_infw h]
      refine ⟨(nar_inf s).1, ?_⟩
      rw [(nar_inf s).2, ← inf_word FloatKind.f32.format (by rw [sign32]; exact hx) h]

/-! ### numbers that are flushed -/
theorem and_top (m : Nat) : m &&& 9223372036854775808 = 0 ∨ m &&& 9223372036854775808 = 9223372036854775808 := by
  have h : m &&& 2 ^ 63 = (m.testBit 63).toNat * 2 ^ 63 := by
    apply Nat.eq_of_testBit_eq
    intro i
    rw [Nat.testBit_and, Nat.testBit_two_pow]
    by_cases hi : 63 = i
    · subst hi
      cases m.testBit 63
      · simp
      · rw [Bool.toNat_true, Nat.one_mul, Nat.testBit_two_pow]; simp
    · rw [decide_eq_false hi, Bool.and_false]
      cases m.testBit 63
      · simp
      · rw [Bool.toNat_true, Nat.one_mul, Nat.testBit_two_pow, decide_eq_false hi]
  have e : (2 : Nat) ^ 63 = 9223372036854775808 := by decide
  rw [e] at h
  rw [h]
  cases m.testBit 63
  · left; rfl
  · right; rfl
theorem copy_zero (m : Nat) : copyBits 0 m = 0 ∨ copyBits 0 m = 9223372036854775808 := by
  unfold copyBits
  have h2 : (BitVec.ofInt 64 (9223372036854775808 : Int)).toNat = 9223372036854775808 := by decide
  have h1 : bits .and .u64 (m : Int) 9223372036854775808 = 0 ∨ bits .and .u64 (m : Int) 9223372036854775808 = 9223372036854775808 := by
    have e : bits .and .u64 (m : Int) 9223372036854775808 = IntKind.u64.wrap ((BitVec.ofInt 64 (m : Int) &&& BitVec.ofInt 64 (9223372036854775808 : Int)).toNat : Int) := rfl
    rw [e, BitVec.toNat_and, h2]
    rcases and_top (BitVec.ofInt 64 (m : Int)).toNat with h | h
    · left; rw [h]; decide
    · right; rw [h]; decide
  rcases h1 with h | h
  · left; rw [h]; decide
  · right; rw [h]; decide
theorem wid_self {x : Nat} (h : isNan .f32 x = false) : R.cmp .eql .f64 (R.wid x) (R.wid x) = true := by
  rcases nm_dec .f32 x with h' | h'
  · have := (wid_nm h').1
    rw [eql_nm this this]; simp
  · rcases not_nm h' with h' | ⟨s, h'⟩
    · rw [h] at h'; cases h'
    · rw [wid_infw h']; cases s <;> decide
theorem sub_nan {x : Nat} (h : p_impl_IsSubnormal R x = true) : isNan .f32 x = false := by
  cases hn : isNan .f32 x
  · rfl
  · unfold p_impl_IsSubnormal at h
    rw [wid_nan hn] at h
    have : R.cmp BinOp.lss FloatKind.f64 (R.abs (nanOf .f64)) 4039728865751334912 = false := by decide
    rw [this] at h
    cases h2 : R.cmp BinOp.neq FloatKind.f32 x 0 <;> rw [h2] at h <;> cases h
theorem sub_zero : p_impl_IsSubnormal R 0 = false ∧ p_impl_IsSubnormal R 2147483648 = false := by
  have h1 : R.cmp BinOp.neq FloatKind.f32 0 0 = false := by decide
  have h2 : R.cmp BinOp.neq FloatKind.f32 2147483648 0 = false := by decide
  unfold p_impl_IsSubnormal
  rw [h1, h2]; exact ⟨rfl, rfl⟩
theorem flush_ok {x : Nat} (hx : x < 4294967296) : r_impl_FlushNumber R x = true ∧ p_impl_IsSubnormal R (p_impl_FlushNumber R x) = false ∧
    (p_impl_IsSubnormal R x == p_spec_SameNumber R x (p_impl_FlushNumber R x)) = false := by
  unfold r_impl_FlushNumber p_impl_FlushNumber c1_impl_FlushNumber c0_impl_FlushNumber
  cases h : p_impl_IsSubnormal R x
  · simp only [cond_false]
    rw [h, same_refl]
    exact ⟨by first | rfl | trivial, rfl, rfl⟩
  · simp only [cond_true]
    have hn := sub_nan h
    have hc := copy_zero (R.wid x)
    have e0 : R.cmp .eql .f64 0 0 = true := by decide
    have hz : p_math_Copysign R 0 (R.wid x) = 0 ∨ p_math_Copysign R 0 (R.wid x) = 9223372036854775808 := by
      unfold p_math_Copysign
      rcases hc with hc | hc
      · left; rw [hc]; decide
      · right; rw [hc]; decide
    have hr : r_math_Copysign R 0 (R.wid x) = true := by
      unfold r_math_Copysign
      rw [e0, wid_self hn]
      rcases hc with hc | hc
      · rw [hc]; rfl
      · rw [hc]; rfl
    have key : ∀ z, z = R.nar 0 ∨ z = R.nar 9223372036854775808 → p_impl_IsSubnormal R z = false ∧ (true == p_spec_SameNumber R x z) = false := fun z hz => by
      have z0 : R.nar 0 = 0 := by decide
      have z1 : R.nar 9223372036854775808 = 2147483648 := by decide
      have hb0 : bw 0 = 0 := by decide
      have hb1 : bw 2147483648 = 2147483648 := by decide
      have hbx : bw x = x := by
        unfold bw
        have : R.cmp .eql .f32 x x = true := by
          rcases nm_dec .f32 x with h' | h'
          · rw [eql_nm h' h']; simp
          · rcases not_nm h' with h' | ⟨s, h'⟩
            · rw [hn] at h'; cases h'
            · rw [inf_word FloatKind.f32.format (by rw [sign32]; exact hx) h']; cases s <;> decide
        rw [this]; rfl
      rcases hz with hz | hz
      · rw [z0] at hz; subst hz
        refine ⟨sub_zero.1, ?_⟩
        rw [same_bw hx (by decide), hb0, hbx]
        by_cases hx0 : x = 0
        · rw [hx0, sub_zero.1] at h; cases h
        · rw [decide_eq_false hx0]; rfl
      · rw [z1] at hz; subst hz
        refine ⟨sub_zero.2, ?_⟩
        rw [same_bw hx (by decide), hb1, hbx]
        by_cases hx0 : x = 2147483648
        · rw [hx0, sub_zero.2] at h; cases h
        · rw [decide_eq_false hx0]; rfl
    rw [hr]
    rcases hz with hz | hz
    · rw [hz]
      obtain ⟨k1, k2⟩ := key _ (.inl rfl)
      exact ⟨by decide, k1, k2⟩
    · rw [hz]
      obtain ⟨k1, k2⟩ := key _ (.inr rfl)
      exact ⟨by decide, k1, k2⟩

theorem frombits_ok {x : Nat} (hx : x < 4294967296) : r_impl_FromBits R (p_impl_BitsOf R x) = true ∧ p_impl_FromBits R (p_impl_BitsOf R x) = (cn .f32 (bw x), true) := by
  obtain ⟨h1, h2, h3⟩ := bits_eq x hx
  rw [h1]
  have hw : p_impl_within R (bw x : Int) 0 4294967295 = true := by
    unfold p_impl_within
    have a : decide ((0 : Int) ≤ (bw x : Int)) = true := decide_eq_true (by omega)
    have b : decide ((bw x : Int) ≤ 4294967295) = true := decide_eq_true (by omega)
    simp only [a, b, cond_true]
  have e : IntKind.u32.wrap (bw x : Int) = (bw x : Int) := wrap32 (by omega) (by omega)
  unfold r_impl_FromBits p_impl_FromBits p_math_Float32frombits
  rw [hw, e, decide_eq_true (by omega), decide_eq_true (by omega)]
  exact ⟨rfl, rfl⟩

/-! ### sums -/
def sm (l : List Nat) : Nat → Nat
  | 0 => 0
  | i + 1 => R.bin .add .f32 (sm l i) (l.getD i 0)
theorem sum_run (l : List Nat) (hl : l.length ≤ 1000000) : c0_impl_sum R l = some (sm l l.length, 0, ()) :=
  runW_count (step := fun x => st_impl_sum_0 R x.1 x.2.1 x.2.2.1 x.2.2.2.1 x.2.2.2.2.1) (n := l.length) (mk := fun i => (sm l i, l, (l.length : Int), (i : Int), 0, ())) (o := (sm l l.length, 0, ()))
    (fun i hi => by
      simp only [st_impl_sum_0]
      rw [wrap_succ (by omega)]
      have a1 : decide ((i : Int) < (l.length : Int)) = true := dt (by omega)
      have a2 : decide (0 ≤ (i : Int)) = true := dt (by omega)
      rw [a1, a2]
      rfl)
    (by
      simp only [st_impl_sum_0]
      have a1 : decide ((l.length : Int) < (l.length : Int)) = false := df (by omega)
      rw [a1]
      rfl)
theorem lsum_run (l : List Nat) (hl : l.length ≤ 1000000) (x y b : Nat) (o : Bool) (z : Nat) : W_laws_FnNumbers_0 R (l, 0, (l.length : Int), 0, x, y, b, o, z, false, ()) = some (x, y, b, o, z, l, sm l l.length, false, ()) :=
  runW_count (step := fun x => st_laws_FnNumbers_0 R x.1 x.2.1 x.2.2.1 x.2.2.2.1 x.2.2.2.2.1 x.2.2.2.2.2.1 x.2.2.2.2.2.2.1 x.2.2.2.2.2.2.2.1 x.2.2.2.2.2.2.2.2.1 x.2.2.2.2.2.2.2.2.2.1) (n := l.length)
    (mk := fun i => (l, sm l i, (l.length : Int), (i : Int), x, y, b, o, z, false, ())) (o := (x, y, b, o, z, l, sm l l.length, false, ()))
    (fun i hi => by
      simp only [st_laws_FnNumbers_0]
      rw [wrap_succ (by omega)]
      have a1 : decide ((i : Int) < (l.length : Int)) = true := dt (by omega)
      have a2 : decide (0 ≤ (i : Int)) = true := dt (by omega)
      have a3 : Nat.blt ((i : Int)).toNat l.length = true := by show Nat.blt i l.length = true; rw [Nat.blt_eq]; exact hi
      rw [a1, a2, a3]
      simp only [Nat.beq_refl, Bool.and_true]
      rfl)
    (by
      simp only [st_laws_FnNumbers_0]
      have a1 : decide ((l.length : Int) < (l.length : Int)) = false := df (by omega)
      rw [a1]
      simp only [Nat.beq_refl, Bool.and_true]
      rfl)

/-! ### texts that are read back -/
theorem cutG_free (c : UInt8) : ∀ (w cur : List UInt8), (∀ b ∈ w, ¬ b = c) → cutG c cur w = [cur ++ w]
  | [], cur, _ => by show [cur] = _; rw [List.append_nil]
  | b :: r, cur, h => by
    rw [cutG_miss (h b (by simp)), cutG_free c r _ (fun x hx => h x (by simp [hx])), List.append_assoc]; rfl
theorem cutG_word (c : UInt8) (t : List UInt8) : ∀ (w cur : List UInt8), (∀ b ∈ w, ¬ b = c) → cutG c cur (w ++ c :: t) = (cur ++ w) :: cutG c [] t
  | [], cur, _ => by rw [List.nil_append, cutG_hit, List.append_nil]
  | b :: r, cur, h => by
    rw [List.cons_append, cutG_miss (h b (by simp)), cutG_word c t r _ (fun x hx => h x (by simp [hx])), List.append_assoc]; rfl
theorem join_one (w : List UInt8) (s : List UInt8) : Lib.join [w] s = w := by simp [Lib.join, List.intercalate]
theorem join_two (w v : List UInt8) (r : List (List UInt8)) (s : List UInt8) : Lib.join (w :: v :: r) s = w ++ s ++ Lib.join (v :: r) s := by
  simp [Lib.join, List.intercalate]
theorem cutG_join (c : UInt8) : ∀ (ws : List (List UInt8)), ws ≠ [] → (∀ w ∈ ws, ∀ b ∈ w, ¬ b = c) → cutG c [] (Lib.join ws [c]) = ws
  | [], h, _ => absurd rfl h
  | [w], _, hw => by rw [join_one, cutG_free c w [] (hw w (by simp))]; rfl
  | w :: v :: r, _, hw => by
    rw [join_two, List.append_assoc, List.singleton_append, cutG_word c _ w [] (hw w (by simp)), cutG_join c (v :: r) (by simp) (fun x hx => hw x (by simp [hx]))]; rfl
theorem join_len (n : Nat) (c : UInt8) : ∀ (ws : List (List UInt8)), ws ≠ [] → (∀ w ∈ ws, w.length = n) → (Lib.join ws [c]).length + 1 = (n + 1) * ws.length
  | [], h, _ => absurd rfl h
  | [w], _, hw => by rw [join_one, hw w (by simp)]; simp
  | w :: v :: r, _, hw => by
    have h1 := join_len n c (v :: r) (by simp) (fun x hx => hw x (by simp [hx]))
    rw [join_two, List.length_append, List.length_append, hw w (by simp)]
    rw [List.length_cons (a := w), Nat.mul_succ]
    simp only [List.length_cons, List.length_nil] at h1 ⊢
    omega

theorem hd_ne (d : Nat) (h : d < 16) : ¬ UInt8.ofNat (hd d).toNat = 44 := by
  have : ∀ d < 16, ¬ UInt8.ofNat (hd d).toNat = 44 := by decide
  exact this d h
theorem tx_free (x : Nat) : ∀ b ∈ (tx x).data.toList, ¬ b = 44 := by
  intro b hb
  unfold tx p_bytes hex8 at hb
  simp at hb
  rcases hb with h | h | h | h | h | h | h | h <;> (rw [h]; exact hd_ne _ (Nat.mod_lt _ (by decide)))

theorem gw_tx (x : Nat) (hx : x < 4294967296) : gw (tx x) = some (cn .f32 (bw x)) := by
  obtain ⟨h1, h2, _⟩ := tx_inj_read x hx _ rfl
  unfold gw
  rw [if_pos h1, h2]
  simp only
  rw [if_pos (bw_cn x)]
theorem mapG_tx : ∀ (l : List Nat), (∀ x ∈ l, x < 4294967296) → mapG (l.map tx) = some (l.map fun x => cn .f32 (bw x))
  | [], _ => rfl
  | x :: r, h => by
    have h1 := gw_tx x (h x (by simp))
    have h2 := mapG_tx r (fun y hy => h y (by simp [hy]))
    rw [List.map_cons, mapG, h1, h2]; rfl

theorem read_back (l : List Nat) (hl : l.length ≤ 256) (hx : ∀ x ∈ l, x < 4294967296) :
    p_impl_NumbersText R l = (p_impl_joinTexts_float32 R l, true) ∧ r_impl_NumbersText R l = true ∧ p_impl_ReadNumbers R (p_impl_joinTexts_float32 R l) = (l.map (fun x => cn .f32 (bw x)), true) ∧
    r_impl_ReadNumbers R (p_impl_joinTexts_float32 R l) = true := by
  obtain ⟨_, h2, _⟩ := ntext_eq l (by omega) hx
  have hi : p_impl_isList_float32 R l = true := by
    unfold p_impl_isList_float32; exact dt (by omega)
  have e0 : l.map tx = words l l.length := by unfold words; rw [List.take_length]
  refine ⟨by unfold p_impl_NumbersText; rw [hi]; rfl, by unfold r_impl_NumbersText; rw [hi, h2]; rfl, ?_⟩
  rcases Nat.eq_zero_or_pos l.length with h0 | h0
  · have := List.eq_nil_of_length_eq_zero h0
    subst this
    have e : p_impl_joinTexts_float32 R [] = ByteArray.mk #[110, 111, 110, 101] := rfl
    rw [e, (implNums _ (by decide)).1, (implNums _ (by decide)).2]
    refine ⟨?_, rfl⟩
    unfold rd
    rw [toList_beq]; rfl
  · have hne : ((l.length : Int) == 0) = false := by
      have : ¬ (l.length : Int) = 0 := by omega
      simpa using this
    have ht : p_impl_joinTexts_float32 R l = ofL (Lib.join ((l.map tx).map (·.data.toList)) [44]) := by
      unfold p_impl_joinTexts_float32
      rw [hne, join_run l (by omega) hx, e0]; rfl
    have hws : ((l.map tx).map (·.data.toList)) ≠ [] := by
      intro h; simp at h; rw [h] at h0; cases h0
    have h8 : ∀ w ∈ (l.map tx).map (·.data.toList), w.length = 8 := by
      intro w hw
      simp at hw
      obtain ⟨a, _, rfl⟩ := hw
      exact tx_size a
    have hlen := join_len 8 44 _ hws h8
    rw [List.length_map, List.length_map] at hlen
    have hsz : (p_impl_joinTexts_float32 R l).size = 9 * l.length - 1 := by
      rw [ht]
      show (Lib.join ((l.map tx).map (·.data.toList)) [44]).toArray.size = _
      rw [List.size_toArray]; omega
    obtain ⟨q1, q2⟩ := implNums (p_impl_joinTexts_float32 R l) (by omega)
    refine ⟨?_, q2⟩
    rw [q1]
    have hw : wds (p_impl_joinTexts_float32 R l) = l.map tx := by
      unfold wds
      rw [ht]
      have : (ofL (Lib.join ((l.map tx).map (·.data.toList)) [44])).data.toList = Lib.join ((l.map tx).map (·.data.toList)) [44] := rfl
      rw [this, cutG_join 44 _ hws (fun w hw => by
        simp at hw
        obtain ⟨a, _, rfl⟩ := hw
        exact tx_free a)]
      rw [List.map_map, List.map_map]
      exact List.map_congr_left fun x _ => rfl
    have hnone : ((p_impl_joinTexts_float32 R l).toList == (ByteArray.mk #[110, 111, 110, 101]).toList) = false := by
      cases hb : ((p_impl_joinTexts_float32 R l).toList == (ByteArray.mk #[110, 111, 110, 101]).toList)
      · rfl
      · have := eq_of_beq hb
        rw [ByteArray.toList_eq, ByteArray.toList_eq] at this
        have h4 : (p_impl_joinTexts_float32 R l).data.toList.length = 4 := by rw [this]; rfl
        have h5 : (p_impl_joinTexts_float32 R l).data.toList.length = 9 * l.length - 1 := hsz
        omega
    unfold rd
    rw [hnone, hw, mapG_tx l hx]
    simp only [cond_false, List.length_map]
    rw [if_pos hl]

theorem cmp_run (l : List Nat) (hl : l.length ≤ 1000000) (hx : ∀ x ∈ l, x < 4294967296) (x y : Nat) :
    W_laws_FnNumbers_1 R (l, l.map (fun x => cn .f32 (bw x)), (l.length : Int), 0, x, y, false, ()) = some (.inr (x, y, false, ())) :=
  runW_count (step := fun x => st_laws_FnNumbers_1 R x.1 x.2.1 x.2.2.1 x.2.2.2.1 x.2.2.2.2.1 x.2.2.2.2.2.1 x.2.2.2.2.2.2.1) (n := l.length)
    (mk := fun i => (l, l.map (fun x => cn .f32 (bw x)), (l.length : Int), (i : Int), x, y, false, ())) (o := .inr (x, y, false, ()))
    (fun i hi => by
      simp only [st_laws_FnNumbers_1]
      rw [wrap_succ (by omega)]
      have a1 : decide ((i : Int) < (l.length : Int)) = true := dt (by omega)
      have a2 : decide (0 ≤ (i : Int)) = true := dt (by omega)
      have a3 : Nat.blt ((i : Int)).toNat l.length = true := by show Nat.blt i l.length = true; rw [Nat.blt_eq]; exact hi
      have hs : p_spec_SameNumber R ((l.map (fun x => cn .f32 (bw x))).getD ((i : Int)).toNat 0) (l.getD ((i : Int)).toNat 0) = true := by
        show p_spec_SameNumber R ((l.map (fun x => cn .f32 (bw x))).getD i 0) (l.getD i 0) = true
        rw [getD_lt (by simpa using hi), getD_lt hi, List.getElem_map]
        have hm := hx _ (List.getElem_mem hi)
        rw [same_bw (cn_lt _ (bits_eq _ hm).2.2) hm, bw_cn]; simp
      rw [a1, a2, r_same, hs]
      simp only [List.length_map, a1, a3, Nat.beq_refl, Bool.and_true]
      rfl)
    (by
      simp only [st_laws_FnNumbers_1]
      have a1 : decide ((l.length : Int) < (l.length : Int)) = false := df (by omega)
      rw [a1]
      rfl)

theorem at_ok {l : List Int} (hb : By l) (i : Nat) (n : Nat) (hn : 2 ≤ n) (hn2 : n ≤ 1000000) (hi : i ≤ 1000000) : r_laws_b10At R l (i : Int) (n : Int) = true ∧ ∃ k : Nat, k < n ∧ p_laws_b10At R l (i : Int) (n : Int) = (k : Int) := by
  have h1 : decide ((n : Int) ≤ 1) = false := df (by omega)
  have h2 : ((n : Int) == 0) = false := by
    have : ¬ (n : Int) = 0 := by omega
    simpa using this
  unfold r_laws_b10At p_laws_b10At
  rw [h1, h2]
  have key : ∀ x : Int, 0 ≤ x → ∃ k : Nat, k < n ∧ x.tmod (n : Int) = (k : Int) := fun x hx => by
    obtain ⟨t1, t2⟩ := tmod_in (x := x) (k := (n : Int)) hx (by omega)
    exact ⟨(x.tmod (n : Int)).toNat, by omega, by omega⟩
  by_cases h3 : (i : Int) < (l.length : Int)
  · rw [decide_eq_true h3, decide_eq_true (show 0 ≤ (i : Int) by omega)]
    refine ⟨rfl, ?_⟩
    have hg := by_getD hb ((i : Int)).toNat
    have := key (IntKind.i64.wrap (l.getD ((i : Int)).toNat 0)) (by rw [wrap_small (by omega) (by omega)]; exact hg.1)
    exact this
  · rw [decide_eq_false h3]
    refine ⟨rfl, ?_⟩
    have := key (IntKind.i64.wrap (IntKind.i64.wrap ((i : Int) * 37) + 11)) (by rw [wrap_small (i := (i : Int) * 37) (by omega) (by omega), wrap_small (by omega) (by omega)]; omega)
    exact this

theorem sine_quarter : R.cmp BinOp.eql FloatKind.f32 (p_impl_SineTurns R 1048576000) 1065353216 = true := by decide +kernel

theorem law_Numbers (c m : List Int) (hc : By c) (hm : By m) : r_laws_FnNumbers R c m = true ∧ p_laws_FnNumbers R c m = true := by
  unfold r_laws_FnNumbers p_laws_FnNumbers
  cases h0 : p_laws_b10Long R c m
  · simp only [cond_false]
    obtain ⟨x1, x2⟩ := b10Number_ok hc
    obtain ⟨y1, y2⟩ := b10Number_ok hm
    obtain ⟨n1, n, n2, n3⟩ := at_ok hc 0 12 (by omega) (by omega) (by omega)
    obtain ⟨l1, l2, l3⟩ := b10Numbers_ok hm n (by omega)
    have n1 : r_laws_b10At R c 0 12 = true := n1
    have e0 : c0_laws_FnNumbers R c m = p_spec_B10Number R c := rfl
    generalize hX : p_spec_B10Number R c = X at *
    generalize hY : p_spec_B10Number R m = Y at *
    generalize hL : p_spec_B10Numbers R m (n : Int) = L at *
    have e1 : c1_laws_FnNumbers R c m = p_impl_BitsOf R X := by unfold c1_laws_FnNumbers; rw [e0]
    have e2 : c2_laws_FnNumbers R c m = (n : Int) := n3
    have e3 : c3_laws_FnNumbers R c m = L := by unfold c3_laws_FnNumbers; rw [e2, hL]
    obtain ⟨f1, f2⟩ := frombits_ok x2
    have e4 : c4_laws_FnNumbers R c m = (cn .f32 (bw X), true) := by unfold c4_laws_FnNumbers; rw [e1, f2]
    have e5 : c5_laws_FnNumbers R c m = some (X, Y, cn .f32 (bw X), true, p_impl_FlushNumber R X, L, sm L L.length, false, ()) := by
      unfold c5_laws_FnNumbers; rw [e3, e0, e4, hY]; exact lsum_run L (by omega) X Y _ _ _
    obtain ⟨t1, t2, t3, t4⟩ := read_back L (by omega) l3
    have e6 : c6_laws_FnNumbers R c m = (p_impl_joinTexts_float32 R L, true) := by unfold c6_laws_FnNumbers; rw [e5]; exact t1
    have hi : p_impl_isList_float32 R L = true := by unfold p_impl_isList_float32; exact dt (by omega)
    have s1 : p_impl_SumNumbers R L = (sm L L.length, true) := by
      unfold p_impl_SumNumbers p_impl_sum; rw [hi, sum_run L (by omega)]; rfl
    have s2 : r_impl_SumNumbers R L = true := by
      unfold r_impl_SumNumbers r_impl_sum; rw [hi, sum_run L (by omega)]; rfl
    have e7 : c7_laws_FnNumbers R c m = (sm L L.length, true) := by unfold c7_laws_FnNumbers; rw [e5]; exact s1
    have e8 : c8_laws_FnNumbers R c m = (L.map (fun x => cn .f32 (bw x)), true) := by unfold c8_laws_FnNumbers; rw [e6]; exact t3
    have e9 : c9_laws_FnNumbers R c m = some (.inr (X, Y, false, ())) := by
      unfold c9_laws_FnNumbers; rw [e5, e8]; exact cmp_run L (by omega) l3 X Y
    have e10 : c10_laws_FnNumbers R c m = c11_laws_FnNumbers R c m := by
      unfold c10_laws_FnNumbers c11_laws_FnNumbers; rw [e9]; rfl
    obtain ⟨w1, w2⟩ := narrow_wid x2
    have e12 : c12_laws_FnNumbers R c m = R.wid X := by unfold c12_laws_FnNumbers; rw [e9]; rfl
    have e13 : c13_laws_FnNumbers R c m = R.nar (R.wid X) := by unfold c13_laws_FnNumbers; rw [e12]; rfl
    obtain ⟨z1, z2, z3⟩ := flush_ok x2
    have b1 : p_spec_SameNumber R (cn .f32 (bw X)) X = true := by
      rw [same_bw (cn_lt _ (bits_eq _ x2).2.2) x2, bw_cn]; simp
    have b2 : p_spec_SameNumber R (R.nar (R.wid X)) X = true := by
      rw [same_bw (cw_nar _).1 x2, w2]; simp
    have b3 : r_impl_NarrowNumber R (R.wid X) = true := by unfold r_impl_NarrowNumber; rw [w1]; rfl
    have b4 : (((L.map (fun x => cn .f32 (bw x))).length : Int) != (L.length : Int)) = false := by rw [List.length_map]; simp
    rw [e0, e1, e2, e3, e5, e6, e7, e8, e9, e10, e12, e13]
    simp only [Option.getD_some, Option.isSome_some]
    have g1 : ∀ r : Nat × Nat × Bool × Unit, isL (A := Bool × Unit) (.inr r) = false := fun _ => rfl
    have g2 : ∀ (d r : Nat × Nat × Bool × Unit), getR (A := Bool × Unit) d (.inr r) = r := fun _ _ => rfl
    simp only [g1, g2]
    rw [x1, y1, (bits_eq X x2).2.1, f1, z1, n1, l1, s2, t2, t4, b1, z2, z3, r_same, r_same, r_same, r_same, r_same, same_refl, same_refl, b2, b3, b4, sine_quarter]
    simp only [Nat.beq_refl, Bool.and_true, Bool.true_and, Bool.not_true, cond_false, cond_true, and_self]
  · exact ⟨rfl, rfl⟩
end Go.Dv
