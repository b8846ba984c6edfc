/- Numbers in decimal, word for word and list for list. -/
import Derived.Test.YtbgpobiaaebbeaaGreatDoorLrf

set_option linter.unusedSimpArgs false
namespace Go.Dv
open Go.Cv

def isDec (w : ByteArray) (n : Int) : Prop := inR n ∧ w = ofL (Lib.itoa n)
theorem ofL_inj {a b : List UInt8} (h : ofL a = ofL b) : a = b := by
  have : (ofL a).data.toList = (ofL b).data.toList := by rw [h]
  simpa [ofL] using this
theorem isDec_inj {w : ByteArray} {n m : Int} (h : isDec w n) (k : isDec w m) : n = m := by
  have e := ofL_inj (h.2.symm.trans k.2)
  have h1 := (itoa_facts n h.1).1
  have h2 := (itoa_facts m k.1).1
  rw [e, h2] at h1
  injection h1 with h1
  exact h1.symm
open Classical in
noncomputable def dv (w : ByteArray) : Option Int := if h : ∃ n, isDec w n then some (Classical.choose h) else none
theorem dv_some {w : ByteArray} {n : Int} (h : isDec w n) : dv w = some n := by
  classical
  unfold dv
  have hx : ∃ n, isDec w n := ⟨n, h⟩
  rw [dif_pos hx]
  exact congrArg some (isDec_inj (Classical.choose_spec hx) h)
theorem dv_none {w : ByteArray} (h : ∀ n, ¬ isDec w n) : dv w = none := by
  classical
  unfold dv
  rw [dif_neg (fun ⟨n, k⟩ => h n k)]
theorem toList_eq_dec (a b : ByteArray) : (a.toList == b.toList) = decide (a = b) := by
  rw [Lib.toList_data, Lib.toList_data]
  by_cases h : a = b
  · rw [dt h, h]; simp
  · rw [df h, beq_eq_false_iff_ne]
    intro h2
    exact h (ByteArray.ext (Array.toList_inj.1 h2))

instance decInR (n : Int) : Decidable (inR n) := inferInstanceAs (Decidable (_ ∧ _))
theorem inR_iff (n : Int) : p_impl_isValue R n = decide (inR n) ∧ p_spec_l00In R n (Int.negSucc 999999999999999) 1000000000000000 = decide (inR n) := by
  have e : Int.negSucc 999999999999999 = -1000000000000000 := rfl
  unfold p_impl_isValue p_impl_within p_spec_l00In inR
  rw [e]
  by_cases c1 : -1000000000000000 ≤ n
  · by_cases c2 : n ≤ 1000000000000000
    · simp [c1, c2]
    · simp [c1, c2]
  · simp [c1]
theorem implDec_eq (w : ByteArray) (hw : w.size ≤ 1048576) : r_impl_ReadDecimal R w = true ∧
    match dv w with
    | some n => p_impl_ReadDecimal R w = (n, true)
    | none => (p_impl_ReadDecimal R w).2 = false := by
  have hr : r_strconv_ParseInt_dec R w = true := dt (by omega)
  unfold r_impl_ReadDecimal p_impl_ReadDecimal c0_impl_ReadDecimal
  rw [hr]
  unfold p_strconv_ParseInt_dec
  cases hp : Lib.parseIntB 64 w.data.toList with
  | ok n =>
    simp only [p_isNil, Bool.not_true, cond_false]
    rw [(inR_iff n).1]
    by_cases c : inR n
    · rw [dt c]
      have hf : r_impl_Decimal_dec R n = true := by
        unfold r_impl_Decimal_dec r_strconv_FormatInt_dec
        have := c.1; have := c.2
        rw [dt (show -9223372036854775808 ≤ n by omega), dt (show n ≤ 9223372036854775807 by omega)]; rfl
      have he : p_impl_Decimal_dec R n = ofL (Lib.itoa n) := rfl
      rw [hf, he, toList_eq_dec]
      by_cases k : ofL (Lib.itoa n) = w
      · rw [dt k, dv_some ⟨c, k.symm⟩]; exact ⟨rfl, rfl⟩
      · rw [df k]
        have hn : dv w = none := dv_none fun m hm => by
          have h1 := (itoa_facts m hm.1).1
          have e : w.data.toList = Lib.itoa m := by rw [hm.2]; rfl
          rw [e, h1] at hp
          injection hp with hp
          subst hp
          exact k hm.2.symm
        rw [hn]; exact ⟨rfl, rfl⟩
    · rw [df c]
      have hn : dv w = none := dv_none fun m hm => by
        have h1 := (itoa_facts m hm.1).1
        have e : w.data.toList = Lib.itoa m := by rw [hm.2]; rfl
        rw [e, h1] at hp
        injection hp with hp
        subst hp
        exact c hm.1
      rw [hn]; exact ⟨rfl, rfl⟩
  | «syntax» =>
    have hn : dv w = none := dv_none fun m hm => by
      have h1 := (itoa_facts m hm.1).1
      have e : w.data.toList = Lib.itoa m := by rw [hm.2]; rfl
      rw [e, h1] at hp; cases hp
    rw [hn]; exact ⟨rfl, rfl⟩
  | range =>
    have hn : dv w = none := dv_none fun m hm => by
      have h1 := (itoa_facts m hm.1).1
      have e : w.data.toList = Lib.itoa m := by rw [hm.2]; rfl
      rw [e, h1] at hp; cases hp
    rw [hn]; exact ⟨rfl, rfl⟩

theorem val_run (w : ByteArray) (hw : w.size ≤ 17) : ∀ (k i n : Nat), i + k = w.size → n < 10 ^ i →
    W_spec_l01Value_0 R (w, (n : Int), (i : Int), 0, false, ()) = some (w, ((sdf n (w.data.toList.drop i) : Nat) : Int), 0, false, ()) ∧ sdf n (w.data.toList.drop i) < 10 ^ 17
  | 0, i, n, h, hn => by
    have hd : w.data.toList.drop i = [] := List.drop_eq_nil_of_le (by show w.size ≤ i; omega)
    rw [hd]
    refine ⟨runW_out ?_, Nat.lt_of_lt_of_le hn (Nat.pow_le_pow_right (by decide) (by omega))⟩
    simp only [st_spec_l01Value_0]
    rw [df (show ¬ (i : Int) < (w.size : Int) by omega)]; rfl
  | k + 1, i, n, h, hn => by
    have hl : i < w.data.toList.length := by show i < w.size; omega
    have hd : w.data.toList.drop i = w.data.toList[i] :: w.data.toList.drop (i + 1) := List.drop_eq_getElem_cons hl
    obtain ⟨b, hb1, hb2⟩ := byteAt_get w i (by omega)
    rw [List.getElem?_eq_getElem hl] at hb1
    cases hb1
    generalize w.data.toList[i] = b at hd hb2
    rw [hd]
    have hb256 := b.toNat_lt
    have hn17 : n < 10 ^ 16 := Nat.lt_of_lt_of_le hn (Nat.pow_le_pow_right (by decide) (by omega))
    have e16 : (10 : Nat) ^ 16 = 10000000000000000 := by decide
    have q1 : decide ((i : Int) < (w.size : Int)) = true := dt (by omega)
    have q2 : decide (0 ≤ (i : Int)) = true := dt (by omega)
    have w1 : IntKind.i64.wrap ((i : Int) + 1) = ((i + 1 : Nat) : Int) := wrap_succ (by omega)
    have w2 : IntKind.i64.wrap (10 * (n : Int)) = 10 * (n : Int) := wrap_small (by omega) (by omega)
    by_cases c : 48 ≤ b.toNat ∧ b.toNat ≤ 57
    · have hst : st_spec_l01Value_0 R w (n : Int) (i : Int) 0 false = some (.inl (w, ((10 * n + (b.toNat - 48) : Nat) : Int), ((i + 1 : Nat) : Int), 0, false, ())) := by
        simp only [st_spec_l01Value_0]
        have e1 : IntKind.i64.wrap (IntKind.u8.wrap ((b.toNat : Int) - 48)) = (b.toNat : Int) - 48 := by rw [wrap8, wrap_small (by omega) (by omega)]; omega
        rw [q1, q2, hb2, dt (show (b.toNat : Int) ≥ 48 by omega), dt (show (b.toNat : Int) ≤ 57 by omega), e1, w1, w2, wrap_small (i := 10 * (n : Int) + ((b.toNat : Int) - 48)) (by omega) (by omega)]
        have e2 : 10 * (n : Int) + ((b.toNat : Int) - 48) = ((10 * n + (b.toNat - 48) : Nat) : Int) := by omega
        rw [e2]; rfl
      have hon : W_spec_l01Value_0 R (w, (n : Int), (i : Int), 0, false, ()) = W_spec_l01Value_0 R (w, ((10 * n + (b.toNat - 48) : Nat) : Int), ((i + 1 : Nat) : Int), 0, false, ()) := runW_on hst
      have es : sdf n (b :: w.data.toList.drop (i + 1)) = sdf (10 * n + (b.toNat - 48)) (w.data.toList.drop (i + 1)) := by rw [sdf, if_pos c]
      rw [hon, es]
      exact val_run w hw k (i + 1) _ (by omega) (by rw [Nat.pow_succ]; omega)
    · have hst : st_spec_l01Value_0 R w (n : Int) (i : Int) 0 false = some (.inl (w, (n : Int), ((i + 1 : Nat) : Int), 0, false, ())) := by
        simp only [st_spec_l01Value_0]
        by_cases c1 : 48 ≤ b.toNat
        · rw [q1, q2, hb2, dt (show (b.toNat : Int) ≥ 48 by omega), df (show ¬ (b.toNat : Int) ≤ 57 by omega), w1]; rfl
        · rw [q1, q2, hb2, df (show ¬ (b.toNat : Int) ≥ 48 by omega), w1]; rfl
      have hon : W_spec_l01Value_0 R (w, (n : Int), (i : Int), 0, false, ()) = W_spec_l01Value_0 R (w, (n : Int), ((i + 1 : Nat) : Int), 0, false, ()) := runW_on hst
      have es : sdf n (b :: w.data.toList.drop (i + 1)) = sdf n (w.data.toList.drop (i + 1)) := by rw [sdf, if_neg c]
      rw [hon, es]
      exact val_run w hw k (i + 1) n (by omega) (Nat.lt_of_lt_of_le hn (Nat.pow_le_pow_right (by decide) (by omega)))

theorem specDec_eq (w : ByteArray) : r_spec_l01Value R w = true ∧
    match dv w with
    | some n => p_spec_l01Value R w = (n, true)
    | none => (p_spec_l01Value R w).2 = false := by
  unfold r_spec_l01Value p_spec_l01Value
  by_cases c1 : (w.size : Int) < 1
  · rw [dt c1]
    have hn : dv w = none := dv_none fun m hm => by
      have h1 := (itoa_facts m hm.1).2.2.1
      have e : w.size = (Lib.itoa m).length := by rw [hm.2]; rfl
      omega
    rw [hn]; exact ⟨rfl, rfl⟩
  · rw [df c1]
    by_cases c2 : (w.size : Int) > 17
    · rw [dt c2]
      have hn : dv w = none := dv_none fun m hm => by
        have h1 := (itoa_facts m hm.1).2.2.2
        have e : w.size = (Lib.itoa m).length := by rw [hm.2]; rfl
        omega
      rw [hn]; exact ⟨rfl, rfl⟩
    · rw [df c2]
      obtain ⟨v1, v2⟩ := val_run w (by omega) w.size 0 0 (by omega) (by decide)
      rw [List.drop_zero] at v1 v2
      have hc : c0_spec_l01Value R w = some (w, ((sdf 0 w.data.toList : Nat) : Int), 0, false, ()) := v1
      rw [hc]
      simp only [Option.getD_some, Option.isSome_some]
      rw [dt (show (0 : Int) < (w.size : Int) by omega)]
      have e17 : (10 : Nat) ^ 17 = 100000000000000000 := by decide
      obtain ⟨b, hb1, hb2⟩ := byteAt_get w 0 (by omega)
      have hl : ∃ r, w.data.toList = b :: r := by
        cases hh : w.data.toList with
        | nil => rw [hh] at hb1; cases hb1
        | cons x r => rw [hh] at hb1; cases hb1; exact ⟨r, rfl⟩
      obtain ⟨r, hr⟩ := hl
      have hb2 : p_byteAt w 0 = (b.toNat : Int) := hb2
      have hsg : sgn w.data.toList = if b.toNat = 45 then -((sdf 0 w.data.toList : Nat) : Int) else ((sdf 0 w.data.toList : Nat) : Int) := by rw [hr]; rfl
      -- what is told of a value
      have tell : ∀ z : Int, z = sgn w.data.toList →
          (bif !p_spec_l00In R z (Int.negSucc 999999999999999) 1000000000000000 then true else (r_spec_l01Dec R z && true)) = true ∧
          match dv w with
          | some n => (bif !p_spec_l00In R z (Int.negSucc 999999999999999) 1000000000000000 then ((0 : Int), false) else (bif !(p_spec_l01Dec R z).toList == w.toList then (0, false) else (z, true))) = (n, true)
          | none => (bif !p_spec_l00In R z (Int.negSucc 999999999999999) 1000000000000000 then ((0 : Int), false) else (bif !(p_spec_l01Dec R z).toList == w.toList then (0, false) else (z, true))).2 = false := fun z hz => by
        rw [(inR_iff z).2]
        by_cases c : inR z
        · rw [dt c]
          obtain ⟨d1, d2⟩ := l01Dec_eq z c
          rw [d1, d2, toList_eq_dec]
          by_cases k : ofL (Lib.itoa z) = w
          · rw [dt k, dv_some ⟨c, k.symm⟩]; exact ⟨rfl, rfl⟩
          · rw [df k]
            have hn : dv w = none := dv_none fun m hm => by
              have h1 := (itoa_facts m hm.1).2.1
              have e : w.data.toList = Lib.itoa m := by rw [hm.2]; rfl
              rw [e, h1] at hz
              subst hz
              exact k hm.2.symm
            rw [hn]; exact ⟨rfl, rfl⟩
        · rw [df c]
          have hn : dv w = none := dv_none fun m hm => by
            have h1 := (itoa_facts m hm.1).2.1
            have e : w.data.toList = Lib.itoa m := by rw [hm.2]; rfl
            rw [e, h1] at hz
            subst hz
            exact c hm.1
          rw [hn]; exact ⟨rfl, rfl⟩
      rw [hb2]
      by_cases c45 : b.toNat = 45
      · have e45 : ((b.toNat : Int) == 45) = true := by rw [c45]; rfl
        have ew : IntKind.i64.wrap (0 - ((sdf 0 w.data.toList : Nat) : Int)) = -((sdf 0 w.data.toList : Nat) : Int) := by rw [wrap_small (by omega) (by omega)]; omega
        rw [if_pos c45] at hsg
        rw [e45, ew]
        exact tell _ hsg.symm
      · have e45 : ((b.toNat : Int) == 45) = false := beq_eq_false_iff_ne.2 (by omega)
        rw [if_neg c45] at hsg
        rw [e45]
        exact tell _ hsg.symm

/-! ### lists -/
noncomputable def mapD : List ByteArray → Option (List Int)
  | [] => some []
  | w :: r => match dv w with
    | none => none
    | some x => match mapD r with
      | none => none
      | some xs => some (x :: xs)

theorem specD_run (P : List ByteArray) (hP : P.length ≤ 100000) : ∀ (k i : Nat) (acc : List Int), i + k = P.length → acc.length = i →
    W_spec_l01Numbers_0 R (acc, P, (i : Int), [], false, ()) = match mapD (P.drop i) with
      | some xs => some (.inr (acc ++ xs, [], false, ()))
      | none => some (.inl ((), false, ()))
  | 0, i, acc, h, ha => by
    have hd : P.drop i = [] := List.drop_eq_nil_of_le (by omega)
    rw [hd]
    show _ = some (Sum.inr (acc ++ [], [], false, ()))
    rw [List.append_nil]
    refine runW_out ?_
    simp only [st_spec_l01Numbers_0]
    rw [df (show ¬ (i : Int) < (P.length : Int) by omega)]
    simp only [Nat.beq_refl]
    rfl
  | k + 1, i, acc, h, ha => by
    have hl : i < P.length := by omega
    have hd : P.drop i = P.getD i w0 :: P.drop (i + 1) := by rw [List.drop_eq_getElem_cons hl, getD_lt hl]
    have q2 : decide (0 ≤ (i : Int)) = true := dt (by omega)
    have q3 : decide ((i : Int) < (P.length : Int)) = true := dt (by omega)
    have q4 : Nat.blt ((i : Int)).toNat P.length = true := ble_of hl
    have hg : P.getD ((i : Int)).toNat (ByteArray.mk #[]) = P.getD i w0 := rfl
    rw [hd]
    generalize P.getD i w0 = w at hg
    have hm : mapD (w :: P.drop (i + 1)) = match dv w with
      | none => none
      | some x => match mapD (P.drop (i + 1)) with
        | none => none
        | some xs => some (x :: xs) := rfl
    rw [hm]
    obtain ⟨r1, r2⟩ := specDec_eq w
    cases hgw : dv w with
    | none =>
      rw [hgw] at r2
      have r2 : (p_spec_l01Value R w).2 = false := r2
      refine runW_out ?_
      simp only [st_spec_l01Numbers_0]
      rw [q3, q2, q4, hg, r1, r2]
      rfl
    | some x =>
      rw [hgw] at r2
      have r2 : p_spec_l01Value R w = (x, true) := r2
      have hst : st_spec_l01Numbers_0 R acc P (i : Int) [] false = some (.inl (acc ++ [x], P, ((i + 1 : Nat) : Int), [], false, ())) := by
        simp only [st_spec_l01Numbers_0]
        have m1 : (acc.length + [x].length).ble 1073741824 = true := ble_of (by simp; omega)
        rw [q3, q2, q4, hg, r1, r2, wrap_succ (by omega)]
        simp only [Nat.beq_refl, m1]
        rfl
      have hon : W_spec_l01Numbers_0 R (acc, P, (i : Int), [], false, ()) = W_spec_l01Numbers_0 R (acc ++ [x], P, ((i + 1 : Nat) : Int), [], false, ()) := runW_on hst
      rw [hon, specD_run P hP k (i + 1) (acc ++ [x]) (by omega) (by simp; omega)]
      simp only
      cases mapD (P.drop (i + 1)) with
      | none => rfl
      | some xs => simp only [List.append_assoc]; rfl

theorem implD_run (P : List ByteArray) (hP : P.length ≤ 2000000) (hs : ∀ i, i < P.length → (P.getD i w0).size ≤ 1048576) : ∀ (k i : Nat) (acc : List Int), i + k = P.length → acc.length = i → i ≤ 64 →
    W_impl_readTexts_int64_k_0 R (64, (), acc, P, (P.length : Int), (i : Int), [], false, ()) = match mapD (P.drop i) with
      | some xs => if P.length ≤ 64 then some (.inr (acc ++ xs, [], false, ())) else some (.inl ((), false, ()))
      | none => some (.inl ((), false, ()))
  | 0, i, acc, h, ha, h256 => by
    have hd : P.drop i = [] := List.drop_eq_nil_of_le (by omega)
    rw [hd]
    show _ = if P.length ≤ 64 then some (Sum.inr (acc ++ [], [], false, ())) else some (Sum.inl ((), false, ()))
    rw [List.append_nil, if_pos (by omega)]
    refine runW_out ?_
    simp only [st_impl_readTexts_int64_k_0]
    rw [df (show ¬ (i : Int) < (P.length : Int) by omega)]
    simp only [Nat.beq_refl]
    rfl
  | k + 1, i, acc, h, ha, h256 => by
    have hl : i < P.length := by omega
    have hd : P.drop i = P.getD i w0 :: P.drop (i + 1) := by rw [List.drop_eq_getElem_cons hl, getD_lt hl]
    have q2 : decide (0 ≤ (i : Int)) = true := dt (by omega)
    have q3 : decide ((i : Int) < (P.length : Int)) = true := dt (by omega)
    have q4 : Nat.blt ((i : Int)).toNat P.length = true := ble_of hl
    have hg : P.getD ((i : Int)).toNat (ByteArray.mk #[]) = P.getD i w0 := rfl
    have hsz := hs i hl
    rw [hd]
    generalize hw : P.getD i w0 = w at hg hsz
    have hm : mapD (w :: P.drop (i + 1)) = match dv w with
      | none => none
      | some x => match mapD (P.drop (i + 1)) with
        | none => none
        | some xs => some (x :: xs) := rfl
    rw [hm]
    obtain ⟨r1, r2⟩ := implDec_eq w hsz
    cases hgw : dv w with
    | none =>
      rw [hgw] at r2
      have r2 : (p_impl_ReadDecimal R w).2 = false := r2
      refine runW_out ?_
      simp only [st_impl_readTexts_int64_k_0]
      rw [q3, q2, q4, hg, r1, r2]
      rfl
    | some x =>
      rw [hgw] at r2
      have r2 : p_impl_ReadDecimal R w = (x, true) := r2
      by_cases c : i = 64
      · have e : ((acc.length : Int) == 64) = true := by rw [ha, c]; rfl
        have hout : W_impl_readTexts_int64_k_0 R (64, (), acc, P, (P.length : Int), (i : Int), [], false, ()) = some (.inl ((), false, ())) := by
          refine runW_out ?_
          simp only [st_impl_readTexts_int64_k_0]
          rw [q3, q2, q4, hg, r1, r2, e]
          rfl
        rw [hout]
        simp only
        cases mapD (P.drop (i + 1)) with
        | none => rfl
        | some xs =>
          show _ = if P.length ≤ 64 then _ else _
          rw [if_neg (by omega)]
      · have e : ((acc.length : Int) == 64) = false := by
          rw [ha]; exact beq_eq_false_iff_ne.2 (by omega)
        have hst : st_impl_readTexts_int64_k_0 R 64 acc P (P.length : Int) (i : Int) [] false = some (.inl (64, (), acc ++ [x], P, (P.length : Int), ((i + 1 : Nat) : Int), [], false, ())) := by
          simp only [st_impl_readTexts_int64_k_0]
          have m1 : (acc.length + [x].length).ble 1073741824 = true := ble_of (by simp; omega)
          rw [q3, q2, q4, hg, r1, r2, e, wrap_succ (by omega)]
          simp only [Nat.beq_refl, m1]
          rfl
        have hon : W_impl_readTexts_int64_k_0 R (64, (), acc, P, (P.length : Int), (i : Int), [], false, ()) = W_impl_readTexts_int64_k_0 R (64, (), acc ++ [x], P, (P.length : Int), ((i + 1 : Nat) : Int), [], false, ()) := runW_on hst
        rw [hon, implD_run P hP hs k (i + 1) (acc ++ [x]) (by omega) (by simp; omega) (by omega)]
        simp only
        cases mapD (P.drop (i + 1)) with
        | none => rfl
        | some xs => simp only [List.append_assoc]; rfl
end Go.Dv
