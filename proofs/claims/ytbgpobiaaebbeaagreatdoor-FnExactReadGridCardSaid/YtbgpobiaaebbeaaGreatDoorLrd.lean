/- Numbers that are read, list for list: the library's way and the reference's give the same. -/
import Derived.Test.YtbgpobiaaebbeaaGreatDoorLrc

set_option linter.unusedSimpArgs false
namespace Go.Dv
open Go.Cv

def w0 : ByteArray := ByteArray.mk #[]
noncomputable def mapG : List ByteArray → Option (List Nat)
  | [] => some []
  | w :: r => match gw w with
    | none => none
    | some x => match mapG r with
      | none => none
      | some xs => some (x :: xs)

theorem word_run (P : List ByteArray) (i : Nat) (hi : i < P.length) (hP : P.length ≤ 100000000) (w : ByteArray) (hw : P.getD i w0 = w) (h8 : w.size = 8) (acc : List Nat) (v14 : List Nat) (v15 : Bool) (ln sz : Int) (b1 b2 : Bool) : ∀ (j k n : Nat), k + j = 8 → n < 16 ^ k →
    W_spec_l01NRead_1 R (P, (i : Int), (n : Int), (k : Int), acc, (i : Int), P, ln, b1, P, (i : Int), w, sz, b2, v14, v15, ()) =
      match hv n (w.data.toList.drop k) with
      | some m => some (.inr (acc, P, (i : Int), (m : Int), 8, (i : Int), P, ln, b1, P, (i : Int), w, sz, b2, 8, false, v14, v15, ()))
      | none => some (.inl ((), false, ()))
  | 0, k, n, h, hn => by
    obtain rfl : k = 8 := by omega
    have hd : w.data.toList.drop 8 = [] := List.drop_eq_nil_of_le (by show w.size ≤ 8; omega)
    rw [hd]
    refine runW_out ?_
    simp only [st_spec_l01NRead_1]
    rw [df (show ¬ ((8 : Nat) : Int) < 8 by omega)]
    simp only [Nat.beq_refl]
    rfl
  | j + 1, k, n, h, hn => by
    have hl : k < w.data.toList.length := by show k < w.size; omega
    have hd : w.data.toList.drop k = w.data.toList[k] :: w.data.toList.drop (k + 1) := List.drop_eq_getElem_cons hl
    obtain ⟨b, hb1, hb2⟩ := byteAt_get w k (by omega)
    rw [List.getElem?_eq_getElem hl] at hb1
    cases hb1
    generalize w.data.toList[k] = b at hd hb2
    rw [hd]
    have hb256 := b.toNat_lt
    have hn8 : n < 268435456 := by
      have : 16 ^ k ≤ 16 ^ 7 := Nat.pow_le_pow_right (by decide) (by omega)
      have e : (16 : Nat) ^ 7 = 268435456 := by decide
      omega
    have q1 : decide ((k : Int) < 8) = true := dt (by omega)
    have q2 : decide (0 ≤ (i : Int)) = true := dt (by omega)
    have q3 : decide ((i : Int) < (P.length : Int)) = true := dt (by omega)
    have q4 : Nat.blt ((i : Int)).toNat P.length = true := ble_of hi
    have q5 : decide (0 ≤ (k : Int)) = true := dt (by omega)
    have q6 : decide ((k : Int) < (w.size : Int)) = true := dt (by omega)
    have hg : P.getD ((i : Int)).toNat (ByteArray.mk #[]) = w := hw
    have w1 : IntKind.i64.wrap ((k : Int) + 1) = ((k + 1 : Nat) : Int) := wrap_succ (by omega)
    have w2 : IntKind.i64.wrap (16 * (n : Int)) = 16 * (n : Int) := wrap_small (by omega) (by omega)
    have next : ∀ d : Nat, d < 16 → hexv b = some d → st_spec_l01NRead_1 R P (i : Int) (n : Int) (k : Int) acc (i : Int) P ln b1 P (i : Int) w sz b2 v14 v15 = some (.inl (P, (i : Int), ((16 * n + d : Nat) : Int), ((k + 1 : Nat) : Int), acc, (i : Int), P, ln, b1, P, (i : Int), w, sz, b2, v14, v15, ())) →
        W_spec_l01NRead_1 R (P, (i : Int), (n : Int), (k : Int), acc, (i : Int), P, ln, b1, P, (i : Int), w, sz, b2, v14, v15, ()) = match hv n (b :: w.data.toList.drop (k + 1)) with
          | some m => some (.inr (acc, P, (i : Int), (m : Int), 8, (i : Int), P, ln, b1, P, (i : Int), w, sz, b2, 8, false, v14, v15, ()))
          | none => some (.inl ((), false, ())) := fun d h16 hx hst => by
      have hon : W_spec_l01NRead_1 R (P, (i : Int), (n : Int), (k : Int), acc, (i : Int), P, ln, b1, P, (i : Int), w, sz, b2, v14, v15, ()) = W_spec_l01NRead_1 R (P, (i : Int), ((16 * n + d : Nat) : Int), ((k + 1 : Nat) : Int), acc, (i : Int), P, ln, b1, P, (i : Int), w, sz, b2, v14, v15, ()) := runW_on hst
      rw [hon, hv_cons' hx]
      exact word_run P i hi hP w hw h8 acc v14 v15 ln sz b1 b2 j (k + 1) (16 * n + d) (by omega) (by rw [Nat.pow_succ]; omega)
    have stop : hexv b = none → st_spec_l01NRead_1 R P (i : Int) (n : Int) (k : Int) acc (i : Int) P ln b1 P (i : Int) w sz b2 v14 v15 = some (.inr (.inl ((), false, ()))) →
        W_spec_l01NRead_1 R (P, (i : Int), (n : Int), (k : Int), acc, (i : Int), P, ln, b1, P, (i : Int), w, sz, b2, v14, v15, ()) = match hv n (b :: w.data.toList.drop (k + 1)) with
          | some m => some (.inr (acc, P, (i : Int), (m : Int), 8, (i : Int), P, ln, b1, P, (i : Int), w, sz, b2, 8, false, v14, v15, ()))
          | none => some (.inl ((), false, ())) := fun hx hst => by
      have : hv n (b :: w.data.toList.drop (k + 1)) = none := by rw [hv, hx]
      rw [this]
      exact runW_out hst
    by_cases c1 : 48 ≤ b.toNat
    · by_cases c2 : b.toNat ≤ 57
      · have hx : hexv b = some (b.toNat - 48) := by unfold hexv; rw [if_pos ⟨c1, c2⟩]
        refine next _ (by omega) hx ?_
        simp only [st_spec_l01NRead_1]
        have e1 : IntKind.i64.wrap (IntKind.u8.wrap ((b.toNat : Int) - 48)) = (b.toNat : Int) - 48 := by rw [wrap8, wrap_small (by omega) (by omega)]; omega
        rw [hg, q1, q2, q3, q4, q5, q6, hb2, dt (show (b.toNat : Int) ≥ 48 by omega), dt (show (b.toNat : Int) ≤ 57 by omega), df (show ¬ (b.toNat : Int) ≥ 97 by omega), e1, df (show ¬ (b.toNat : Int) - 48 < 0 by omega), w1, w2, wrap_small (i := 16 * (n : Int) + ((b.toNat : Int) - 48)) (by omega) (by omega)]
        have e2 : 16 * (n : Int) + ((b.toNat : Int) - 48) = ((16 * n + (b.toNat - 48) : Nat) : Int) := by omega
        rw [e2]
        simp only [Nat.beq_refl]
        rfl
      · by_cases c3 : 97 ≤ b.toNat
        · by_cases c4 : b.toNat ≤ 102
          · have hx : hexv b = some (b.toNat - 87) := by unfold hexv; rw [if_neg (fun h => c2 h.2), if_pos ⟨c3, c4⟩]
            refine next _ (by omega) hx ?_
            simp only [st_spec_l01NRead_1]
            have e1 : IntKind.i64.wrap (IntKind.i64.wrap (IntKind.u8.wrap ((b.toNat : Int) - 97)) + 10) = (b.toNat : Int) - 87 := by rw [wrap8, wrap_small (i := ((b.toNat : Int) - 97) % 256) (by omega) (by omega), wrap_small (by omega) (by omega)]; omega
            rw [hg, q1, q2, q3, q4, q5, q6, hb2, dt (show (b.toNat : Int) ≥ 48 by omega), df (show ¬ (b.toNat : Int) ≤ 57 by omega), dt (show (b.toNat : Int) ≥ 97 by omega), dt (show (b.toNat : Int) ≤ 102 by omega), e1, df (show ¬ (b.toNat : Int) - 87 < 0 by omega), w1, w2, wrap_small (i := 16 * (n : Int) + ((b.toNat : Int) - 87)) (by omega) (by omega)]
            have e2 : 16 * (n : Int) + ((b.toNat : Int) - 87) = ((16 * n + (b.toNat - 87) : Nat) : Int) := by omega
            rw [e2]
            simp only [Nat.beq_refl]
            rfl
          · refine stop (by unfold hexv; rw [if_neg (fun h => c2 h.2), if_neg (fun h => c4 h.2)]) ?_
            simp only [st_spec_l01NRead_1]
            rw [hg, q1, q2, q3, q4, q5, q6, hb2, dt (show (b.toNat : Int) ≥ 48 by omega), df (show ¬ (b.toNat : Int) ≤ 57 by omega), dt (show (b.toNat : Int) ≥ 97 by omega), df (show ¬ (b.toNat : Int) ≤ 102 by omega)]
            rfl
        · refine stop (by unfold hexv; rw [if_neg (fun h => c2 h.2), if_neg (fun h => c3 h.1)]) ?_
          simp only [st_spec_l01NRead_1]
          rw [hg, q1, q2, q3, q4, q5, q6, hb2, dt (show (b.toNat : Int) ≥ 48 by omega), df (show ¬ (b.toNat : Int) ≤ 57 by omega), df (show ¬ (b.toNat : Int) ≥ 97 by omega)]
          rfl
    · refine stop (by unfold hexv; rw [if_neg (fun h => c1 h.1), if_neg (fun h => by omega)]) ?_
      simp only [st_spec_l01NRead_1]
      rw [hg, q1, q2, q3, q4, q5, q6, hb2, df (show ¬ (b.toNat : Int) ≥ 48 by omega), df (show ¬ (b.toNat : Int) ≥ 97 by omega)]
      rfl

theorem specList_run (P : List ByteArray) (hP : P.length ≤ 100000) : ∀ (k i : Nat) (acc : List Nat), i + k = P.length → acc.length = i →
    W_spec_l01NRead_0 R (acc, P, (i : Int), [], false, ()) = match mapG (P.drop i) with
      | some xs => some (.inr (acc ++ xs, [], false, ()))
      | none => some (.inl ((), false, ()))
  | 0, i, acc, h, ha => by
    have hd : P.drop i = [] := List.drop_eq_nil_of_le (by omega)
    rw [hd]
    show _ = some (Sum.inr (acc ++ [], [], false, ()))
    rw [List.append_nil]
    refine runW_out ?_
    simp only [st_spec_l01NRead_0]
    rw [df (show ¬ (i : Int) < (P.length : Int) by omega)]
    simp only [Nat.beq_refl]
    rfl
  | k + 1, i, acc, h, ha => by
    have hl : i < P.length := by omega
    have hd : P.drop i = P.getD i w0 :: P.drop (i + 1) := by rw [List.drop_eq_getElem_cons hl, getD_lt hl]
    have q2 : decide (0 ≤ (i : Int)) = true := dt (by omega)
    have q3 : decide ((i : Int) < (P.length : Int)) = true := dt (by omega)
    have q4 : Nat.blt ((i : Int)).toNat P.length = true := ble_of hl
    have hg : P.getD ((i : Int)).toNat (ByteArray.mk #[]) = P.getD i w0 := rfl
    rw [hd]
    generalize hw : P.getD i w0 = w at hg
    have hm : mapG (w :: P.drop (i + 1)) = match gw w with
      | none => none
      | some x => match mapG (P.drop (i + 1)) with
        | none => none
        | some xs => some (x :: xs) := rfl
    rw [hm]
    by_cases h8 : w.size = 8
    · have hin := word_run P i hl (by omega) w hw h8 acc [] false (P.length : Int) (w.size : Int) true false 8 0 0 (by omega) (by decide)
      rw [List.drop_zero] at hin
      have e8 : ((w.size : Int) != 8) = false := by rw [h8]; rfl
      have hin : W_spec_l01NRead_1 R (P, (i : Int), 0, 0, acc, (i : Int), P, (P.length : Int), true, P, (i : Int), w, (w.size : Int), false, [], false, ()) = _ := hin
      cases hh : hv 0 w.data.toList with
      | none =>
        rw [hh] at hin
        have hgw : gw w = none := by unfold gw; rw [if_pos h8, hh]
        rw [hgw]
        refine runW_out ?_
        simp only [st_spec_l01NRead_0]
        rw [q3, q2, q4, hg, e8, hin]
        simp only [Nat.beq_refl]
        rfl
      | some n =>
        rw [hh] at hin
        obtain ⟨hn, _⟩ := hex8_of _ n h8 hh
        have hwr : IntKind.u32.wrap (n : Int) = (n : Int) := wrap32 (by omega) (by omega)
        have hfr : p_spec_l01From R (n : Int) = cn .f32 n ∧ r_spec_l01From R (n : Int) = true := by
          unfold p_spec_l01From r_spec_l01From p_math_Float32frombits
          rw [hwr, dt (show 0 ≤ (n : Int) by omega), dt (show (n : Int) < 4294967296 by omega)]
          exact ⟨rfl, rfl⟩
        obtain ⟨b1, b2⟩ := l01Bits_eq (cn .f32 n) (cn_lt n hn)
        by_cases hbw : bw (cn .f32 n) = n
        · have hgw : gw w = some (cn .f32 n) := by
            unfold gw; rw [if_pos h8, hh]
            show (if bw (cn .f32 n) = n then some (cn .f32 n) else none) = _
            rw [if_pos hbw]
          rw [hgw]
          have ebn : ((bw (cn .f32 n) : Int) != (n : Int)) = false := by rw [hbw]; simp
          have hst : st_spec_l01NRead_0 R acc P (i : Int) [] false = some (.inl (acc ++ [cn .f32 n], P, ((i + 1 : Nat) : Int), [], false, ())) := by
            simp only [st_spec_l01NRead_0]
            rw [q3, q2, q4, hg, e8, hin]
            have g1 : ∀ (a : List Nat × List ByteArray × Int × Int × Int × Int × List ByteArray × Int × Bool × List ByteArray × Int × ByteArray × Int × Bool × Int × Bool × List Nat × Bool × Unit) (d : (Unit × Bool × Unit) ⊕ (List Nat × List ByteArray × Int × Int × Int × Int × List ByteArray × Int × Bool × List ByteArray × Int × ByteArray × Int × Bool × Int × Bool × List Nat × Bool × Unit)) (z : List Nat × List ByteArray × Int × Int × Int × Int × List ByteArray × Int × Bool × List ByteArray × Int × ByteArray × Int × Bool × Int × Bool × List Nat × Bool × Unit),
              getR z ((some (Sum.inr a)).getD d) = a := fun _ _ _ => rfl
            simp only [g1, hfr.1, hfr.2, b1, b2, ebn, wrap_succ (show i < 2 ^ 62 by omega), Nat.beq_refl]
            have m1 : (acc.length + [cn .f32 n].length).ble 1073741824 = true := ble_of (by simp; omega)
            rw [m1]
            rfl
          have hon : W_spec_l01NRead_0 R (acc, P, (i : Int), [], false, ()) = W_spec_l01NRead_0 R (acc ++ [cn .f32 n], P, ((i + 1 : Nat) : Int), [], false, ()) := runW_on hst
          rw [hon, specList_run P hP k (i + 1) (acc ++ [cn .f32 n]) (by omega) (by simp; omega)]
          simp only
          cases mapG (P.drop (i + 1)) with
          | none => rfl
          | some xs => simp only [List.append_assoc]; rfl
        · have hgw : gw w = none := by
            unfold gw; rw [if_pos h8, hh]
            show (if bw (cn .f32 n) = n then some (cn .f32 n) else none) = _
            rw [if_neg hbw]
          rw [hgw]
          have ebn : ((bw (cn .f32 n) : Int) != (n : Int)) = true := by
            rw [bne_iff_ne]; omega
          refine runW_out ?_
          simp only [st_spec_l01NRead_0]
          rw [q3, q2, q4, hg, e8, hin]
          have g1 : ∀ (a : List Nat × List ByteArray × Int × Int × Int × Int × List ByteArray × Int × Bool × List ByteArray × Int × ByteArray × Int × Bool × Int × Bool × List Nat × Bool × Unit) (d : (Unit × Bool × Unit) ⊕ (List Nat × List ByteArray × Int × Int × Int × Int × List ByteArray × Int × Bool × List ByteArray × Int × ByteArray × Int × Bool × Int × Bool × List Nat × Bool × Unit)) (z : List Nat × List ByteArray × Int × Int × Int × Int × List ByteArray × Int × Bool × List ByteArray × Int × ByteArray × Int × Bool × Int × Bool × List Nat × Bool × Unit),
            getR z ((some (Sum.inr a)).getD d) = a := fun _ _ _ => rfl
          simp only [g1, hfr.1, hfr.2, b1, b2, ebn, Nat.beq_refl]
          rfl
    · have e8 : ((w.size : Int) != 8) = true := by
        rw [bne_iff_ne]; omega
      have hgw : gw w = none := by unfold gw; rw [if_neg h8]
      rw [hgw]
      refine runW_out ?_
      simp only [st_spec_l01NRead_0]
      rw [q3, q2, q4, hg, e8]
      rfl

theorem implList_run (P : List ByteArray) (hP : P.length ≤ 2000000) (hs : ∀ i, i < P.length → (P.getD i w0).size ≤ 1048576) : ∀ (k i : Nat) (acc : List Nat), i + k = P.length → acc.length = i → i ≤ 256 →
    W_impl_readTexts_float32_k_0 R (256, (), acc, P, (P.length : Int), (i : Int), [], false, ()) = match mapG (P.drop i) with
      | some xs => if P.length ≤ 256 then some (.inr (acc ++ xs, [], false, ())) else some (.inl ((), false, ()))
      | none => some (.inl ((), false, ()))
  | 0, i, acc, h, ha, h256 => by
    have hd : P.drop i = [] := List.drop_eq_nil_of_le (by omega)
    rw [hd]
    show _ = if P.length ≤ 256 then some (Sum.inr (acc ++ [], [], false, ())) else some (Sum.inl ((), false, ()))
    rw [List.append_nil, if_pos (by omega)]
    refine runW_out ?_
    simp only [st_impl_readTexts_float32_k_0]
    rw [df (show ¬ (i : Int) < (P.length : Int) by omega)]
    simp only [Nat.beq_refl]
    rfl
  | k + 1, i, acc, h, ha, h256 => by
    have hl : i < P.length := by omega
    have hd : P.drop i = P.getD i w0 :: P.drop (i + 1) := by rw [List.drop_eq_getElem_cons hl, getD_lt hl]
    have q2 : decide (0 ≤ (i : Int)) = true := dt (by omega)
    have q3 : decide ((i : Int) < (P.length : Int)) = true := dt (by omega)
    have q4 : Nat.blt ((i : Int)).toNat P.length = true := ble_of hl
    have hg : P.getD ((i : Int)).toNat (ByteArray.mk #[]) = P.getD i w0 := rfl
    have hsz := hs i hl
    rw [hd]
    generalize hw : P.getD i w0 = w at hg hsz
    have hm : mapG (w :: P.drop (i + 1)) = match gw w with
      | none => none
      | some x => match mapG (P.drop (i + 1)) with
        | none => none
        | some xs => some (x :: xs) := rfl
    rw [hm]
    obtain ⟨r1, r2⟩ := readBits_eq w hsz
    cases hgw : gw w with
    | none =>
      rw [hgw] at r2
      have r2 : (p_impl_readBits R w).2 = false := r2
      refine runW_out ?_
      simp only [st_impl_readTexts_float32_k_0]
      rw [q3, q2, q4, hg, r1, r2]
      rfl
    | some x =>
      rw [hgw] at r2
      have r2 : p_impl_readBits R w = (x, true) := r2
      by_cases c : i = 256
      · have e : ((acc.length : Int) == 256) = true := by rw [ha, c]; rfl
        have hout : W_impl_readTexts_float32_k_0 R (256, (), acc, P, (P.length : Int), (i : Int), [], false, ()) = some (.inl ((), false, ())) := by
          refine runW_out ?_
          simp only [st_impl_readTexts_float32_k_0]
          rw [q3, q2, q4, hg, r1, r2, e]
          rfl
        rw [hout]
        simp only
        cases mapG (P.drop (i + 1)) with
        | none => rfl
        | some xs =>
          show _ = if P.length ≤ 256 then _ else _
          rw [if_neg (by omega)]
      · have e : ((acc.length : Int) == 256) = false := by
          rw [ha]; exact beq_eq_false_iff_ne.2 (by omega)
        have hst : st_impl_readTexts_float32_k_0 R 256 acc P (P.length : Int) (i : Int) [] false = some (.inl (256, (), acc ++ [x], P, (P.length : Int), ((i + 1 : Nat) : Int), [], false, ())) := by
          simp only [st_impl_readTexts_float32_k_0]
          have m1 : (acc.length + [x].length).ble 1073741824 = true := ble_of (by simp; omega)
          rw [q3, q2, q4, hg, r1, r2, e, wrap_succ (by omega)]
          simp only [Nat.beq_refl, m1]
          rfl
        have hon : W_impl_readTexts_float32_k_0 R (256, (), acc, P, (P.length : Int), (i : Int), [], false, ()) = W_impl_readTexts_float32_k_0 R (256, (), acc ++ [x], P, (P.length : Int), ((i + 1 : Nat) : Int), [], false, ()) := runW_on hst
        rw [hon, implList_run P hP hs k (i + 1) (acc ++ [x]) (by omega) (by simp; omega) (by omega)]
        simp only
        cases mapG (P.drop (i + 1)) with
        | none => rfl
        | some xs => simp only [List.append_assoc]; rfl
end Go.Dv
