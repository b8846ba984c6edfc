/- Places that are unpacked. -/
import Derived.Test.YtgfplcpjnlignaaDoorLli

set_option linter.unusedSimpArgs false
set_option linter.unusedVariables false
namespace Go.Dv
open Go.Cv

theorem rdN_len : ∀ (k : Nat) (l : List UInt8) (i acc n c : Nat), rdN k l i acc = some (n, c) → c ≤ i + l.length ∧ i < c
  | 0, _, _, _, _, _, h => by cases h
  | k + 1, [], _, _, _, _, h => by cases h
  | k + 1, b :: r, i, acc, n, c, h => by
    rw [rdN] at h
    by_cases hb : b.toNat < 128
    · rw [if_pos hb] at h; cases h; exact ⟨by rw [List.length_cons]; omega, by omega⟩
    · rw [if_neg hb] at h
      have := rdN_len k r (i + 1) _ n c h
      simp; omega
theorem sub_drop (s : ByteArray) (a : Nat) : (p_sub s a s.size).data.toList = s.data.toList.drop a := by
  unfold p_sub
  simp
  rw [List.take_of_length_le (by simp)]

theorem upl_step (s : ByteArray) (hs : s.size ≤ 4194304) (x y : Int) (j : Nat) (hj : j < 2) (a : Nat) (ha : a ≤ s.size) (out : List (Nat × Nat)) (v5 : Int) (v6 : ByteArray) (v7 : Int) (v8 v9 v10 : Bool) (v11 : List (Nat × Nat)) (v12 : Bool) :
    st_impl_UnpackPlaces_1 R s [x, y] (a : Int) (j : Int) out v5 v6 v7 v8 v9 v10 v11 v12 =
      (match rdN 5 (s.data.toList.drop a) 0 0 with
        | none => some (.inr (.inl ((), false, ())))
        | some (n, c) => some (.inl (s, (), [x, y].set j (IntKind.i64.wrap ([x, y].getD j 0 + unz n)), ((a + c : Nat) : Int), ((j + 1 : Nat) : Int), out, v5, v6, v7, v8, v9, v10, v11, v12, ()))) := by
  have hsub : p_sub s ((some (a : Int)).getD 0).toNat (none.getD (s.size : Int)).toNat = p_sub s a s.size := rfl
  obtain ⟨u1, u2⟩ := unpack_eq (p_sub s a s.size)
  rw [sub_drop] at u2
  unfold st_impl_UnpackPlaces_1
  have hk1 : k1_impl_UnpackPlaces_1 R s [x, y] (a : Int) (j : Int) out v5 v6 v7 v8 v9 v10 v11 v12 = p_impl_unpackNumber R (p_sub s a s.size) := rfl
  have hk0 : k0_impl_UnpackPlaces_1 R s [x, y] (a : Int) (j : Int) out v5 v6 v7 v8 v9 v10 v11 v12 = p_sub s a s.size := rfl
  rw [hk1, hk0, u1, u2, dt (show (j : Int) < 2 by omega), dt (show 0 ≤ (some (a : Int)).getD 0 by show (0 : Int) ≤ (a : Int); omega), dt (show (some (a : Int)).getD 0 ≤ none.getD (s.size : Int) by show (a : Int) ≤ (s.size : Int); omega), dt (show none.getD (s.size : Int) ≤ (s.size : Int) from Int.le_refl _), dt (show 0 ≤ (j : Int) by omega), dt (show (j : Int) < Int.ofNat 2 by show (j : Int) < (2 : Int); omega), wrap_succ (by omega)]
  have hbl : Nat.blt ((j : Int)).toNat ([x, y] : List Int).length = true := by show Nat.blt j 2 = true; rw [Nat.blt_eq]; exact hj
  rw [hbl, Nat.beq_refl, Nat.beq_refl]
  cases h : rdN 5 (s.data.toList.drop a) 0 0 with
  | none => rfl
  | some q =>
    obtain ⟨n, c⟩ := q
    have hl := (rdN_len 5 _ 0 0 n c h).1
    rw [List.length_drop] at hl
    have hl2 : s.data.toList.length = s.size := rfl
    have ew : IntKind.i64.wrap ((a : Int) + (c : Int)) = ((a + c : Nat) : Int) := by rw [wrap_small (by omega) (by omega)]; omega
    simp only
    rw [ew]
    rfl

theorem upl_two (s : ByteArray) (hs : s.size ≤ 4194304) (x y : Int) (a : Nat) (ha : a ≤ s.size) (out : List (Nat × Nat)) (v5 : Int) (v6 : ByteArray) (v7 : Int) (v8 v9 v10 : Bool) (v11 : List (Nat × Nat)) (v12 : Bool) :
    W_impl_UnpackPlaces_1 R (s, (), [x, y], (a : Int), 0, out, v5, v6, v7, v8, v9, v10, v11, v12, ()) =
      some (match rdN 5 (s.data.toList.drop a) 0 0 with
        | none => .inl ((), false, ())
        | some (n1, c1) => match rdN 5 (s.data.toList.drop (a + c1)) 0 0 with
          | none => .inl ((), false, ())
          | some (n2, c2) => .inr (s, out, (), [IntKind.i64.wrap (x + unz n1), IntKind.i64.wrap (y + unz n2)], ((a + c1 + c2 : Nat) : Int), v5, v6, v7, v8, v9, v10, 2, false, v11, v12, ())) := by
  have s0 := upl_step s hs x y 0 (by omega) a ha out v5 v6 v7 v8 v9 v10 v11 v12
  cases h : rdN 5 (s.data.toList.drop a) 0 0 with
  | none =>
    rw [h] at s0
    exact runW_out s0
  | some q =>
    obtain ⟨n1, c1⟩ := q
    rw [h] at s0
    have hl := (rdN_len 5 _ 0 0 n1 c1 h).1
    rw [List.length_drop] at hl
    have hl2 : s.data.toList.length = s.size := rfl
    refine (runW_on (step := fun x => st_impl_UnpackPlaces_1 R x.1 x.2.2.1 x.2.2.2.1 x.2.2.2.2.1 x.2.2.2.2.2.1 x.2.2.2.2.2.2.1 x.2.2.2.2.2.2.2.1 x.2.2.2.2.2.2.2.2.1 x.2.2.2.2.2.2.2.2.2.1 x.2.2.2.2.2.2.2.2.2.2.1 x.2.2.2.2.2.2.2.2.2.2.2.1 x.2.2.2.2.2.2.2.2.2.2.2.2.1 x.2.2.2.2.2.2.2.2.2.2.2.2.2.1) s0).trans ?_
    have s1 := upl_step s hs (IntKind.i64.wrap (x + unz n1)) y 1 (by omega) (a + c1) (by omega) out v5 v6 v7 v8 v9 v10 v11 v12
    simp only
    cases h2 : rdN 5 (s.data.toList.drop (a + c1)) 0 0 with
    | none =>
      rw [h2] at s1
      exact runW_out s1
    | some q2 =>
      obtain ⟨n2, c2⟩ := q2
      rw [h2] at s1
      refine (runW_on (step := fun x => st_impl_UnpackPlaces_1 R x.1 x.2.2.1 x.2.2.2.1 x.2.2.2.2.1 x.2.2.2.2.2.1 x.2.2.2.2.2.2.1 x.2.2.2.2.2.2.2.1 x.2.2.2.2.2.2.2.2.1 x.2.2.2.2.2.2.2.2.2.1 x.2.2.2.2.2.2.2.2.2.2.1 x.2.2.2.2.2.2.2.2.2.2.2.1 x.2.2.2.2.2.2.2.2.2.2.2.2.1 x.2.2.2.2.2.2.2.2.2.2.2.2.2.1) s1).trans ?_
      refine runW_out ?_
      show st_impl_UnpackPlaces_1 R s _ _ ((2 : Nat) : Int) out v5 v6 v7 v8 v9 v10 v11 v12 = _
      unfold st_impl_UnpackPlaces_1
      rw [df (show ¬ ((2 : Nat) : Int) < 2 by omega), Nat.beq_refl, Nat.beq_refl]
      rfl

/-- places out of bytes, one after another -/
noncomputable def upk : Nat → List UInt8 → List (Nat × Nat) → Int → Int → Option (List (Nat × Nat))
  | 0, _, _, _, _ => none
  | k + 1, r, acc, x, y =>
    if r = [] ∧ acc ≠ [] then some acc
    else match rdN 5 r 0 0 with
      | none => none
      | some (n1, c1) => match rdN 5 (r.drop c1) 0 0 with
        | none => none
        | some (n2, c2) =>
          if (p_impl_PlaceOfSteps R (IntKind.i64.wrap (x + unz n1)) (IntKind.i64.wrap (y + unz n2))).2.2 = true then
            if acc.length = 64 then none
            else upk k (r.drop (c1 + c2)) (acc ++ [((p_impl_PlaceOfSteps R (IntKind.i64.wrap (x + unz n1)) (IntKind.i64.wrap (y + unz n2))).1, (p_impl_PlaceOfSteps R (IntKind.i64.wrap (x + unz n1)) (IntKind.i64.wrap (y + unz n2))).2.1)]) (IntKind.i64.wrap (x + unz n1)) (IntKind.i64.wrap (y + unz n2))
          else none

theorem upl_run (s : ByteArray) (hs : s.size ≤ 4194304) : ∀ (k : Nat) (acc : List (Nat × Nat)) (x y : Int) (a : Nat), a ≤ s.size → acc.length + k = 66 → acc.length ≤ 64 →
    W_impl_UnpackPlaces_0 R (s, acc, (), [x, y], (a : Int), [], false, ()) =
      some (match upk k (s.data.toList.drop a) acc x y with
        | none => .inl ((), false, ())
        | some l => .inr (s, l, [], false, ())) := by
  intro k
  induction k with
  | zero => intro acc x y a _ h1 h2; omega
  | succ k ih =>
    intro acc x y a ha hk hacc
    have hl2 : s.data.toList.length = s.size := rfl
    by_cases hlt : a < s.size
    · have hr : s.data.toList.drop a ≠ [] := fun h => by
        have := congrArg List.length h
        rw [List.length_drop] at this
        simp at this; omega
      have hkk := upl_two s hs x y a ha acc (a : Int) s (s.size : Int) (decide ((a : Int) < (s.size : Int))) true true [] false
      have hk0 : k0_impl_UnpackPlaces_0 R s acc [x, y] (a : Int) [] false = W_impl_UnpackPlaces_1 R (s, (), [x, y], (a : Int), 0, acc, (a : Int), s, (s.size : Int), decide ((a : Int) < (s.size : Int)), true, true, [], false, ()) := rfl
      rw [hkk] at hk0
      have hcond : ¬ (s.data.toList.drop a = [] ∧ acc ≠ []) := fun h => hr h.1
      rw [upk, if_neg hcond]
      cases h1 : rdN 5 (s.data.toList.drop a) 0 0 with
      | none =>
        rw [h1] at hk0
        refine runW_out ?_
        show st_impl_UnpackPlaces_0 R s acc [x, y] (a : Int) [] false = _
        unfold st_impl_UnpackPlaces_0
        rw [hk0, dt (show (a : Int) < (s.size : Int) by omega), Nat.beq_refl, Nat.beq_refl]; rfl
      | some q =>
        obtain ⟨n1, c1⟩ := q
        rw [h1] at hk0
        have hc1 := (rdN_len 5 _ 0 0 n1 c1 h1).1
        rw [List.length_drop] at hc1
        simp only at hk0 ⊢
        rw [List.drop_drop]
        cases h2 : rdN 5 (s.data.toList.drop (a + c1)) 0 0 with
        | none =>
          rw [h2] at hk0
          refine runW_out ?_
          show st_impl_UnpackPlaces_0 R s acc [x, y] (a : Int) [] false = _
          unfold st_impl_UnpackPlaces_0
          rw [hk0, dt (show (a : Int) < (s.size : Int) by omega), Nat.beq_refl, Nat.beq_refl]; rfl
        | some q2 =>
          obtain ⟨n2, c2⟩ := q2
          rw [h2] at hk0
          have hc2 := (rdN_len 5 _ 0 0 n2 c2 h2).1
          rw [List.length_drop] at hc2
          simp only at hk0 ⊢
          have hk1 : k1_impl_UnpackPlaces_0 R s acc [x, y] (a : Int) [] false = p_impl_PlaceOfSteps R (IntKind.i64.wrap (x + unz n1)) (IntKind.i64.wrap (y + unz n2)) := by
            unfold k1_impl_UnpackPlaces_0; rw [hk0]; rfl
          generalize hp : p_impl_PlaceOfSteps R (IntKind.i64.wrap (x + unz n1)) (IntKind.i64.wrap (y + unz n2)) = P at *
          have st0 : st_impl_UnpackPlaces_0 R s acc [x, y] (a : Int) [] false =
              (if P.2.2 = true then if acc.length = 64 then some (.inr (.inl ((), false, ()))) else some (.inl (s, acc ++ [(P.1, P.2.1)], (), [IntKind.i64.wrap (x + unz n1), IntKind.i64.wrap (y + unz n2)], ((a + c1 + c2 : Nat) : Int), [], false, ())) else some (.inr (.inl ((), false, ())))) := by
            unfold st_impl_UnpackPlaces_0
            rw [hk0, hk1, dt (show (a : Int) < (s.size : Int) by omega)]
            have g : ∀ (d z : ByteArray × List (Nat × Nat) × Unit × List Int × Int × Int × ByteArray × Int × Bool × Bool × Bool × Int × Bool × List (Nat × Nat) × Bool × Unit), getR (A := Unit × Bool × Unit) d (.inr z) = z := fun _ _ => rfl
            have g2 : ∀ z : ByteArray × List (Nat × Nat) × Unit × List Int × Int × Int × ByteArray × Int × Bool × Bool × Bool × Int × Bool × List (Nat × Nat) × Bool × Unit, isL (A := Unit × Bool × Unit) (.inr z) = false := fun _ => rfl
            simp only [Option.getD_some, Option.isSome_some, g, g2, Nat.beq_refl]
            cases hP : P.2.2
            · rfl
            · by_cases h64 : acc.length = 64
              · rw [if_pos rfl, if_pos h64]
                have : ((acc.length : Int) == 64) = true := by rw [h64]; rfl
                rw [this]; rfl
              · rw [if_pos rfl, if_neg h64]
                have : ((acc.length : Int) == 64) = false := by
                  have : ¬ (acc.length : Int) = 64 := by omega
                  simpa using this
                rw [this, ble_of (show acc.length + [(P.1, P.2.1)].length ≤ 1073741824 by simp; omega)]
                rfl
          by_cases hP : P.2.2 = true
          · by_cases h64 : acc.length = 64
            · rw [if_pos hP, if_pos h64] at st0
              rw [if_pos hP, if_pos h64]
              exact runW_out st0
            · rw [if_pos hP, if_neg h64] at st0
              rw [if_pos hP, if_neg h64]
              refine (runW_on (step := fun x => st_impl_UnpackPlaces_0 R x.1 x.2.1 x.2.2.2.1 x.2.2.2.2.1 x.2.2.2.2.2.1 x.2.2.2.2.2.2.1) st0).trans ?_
              have := ih (acc ++ [(P.1, P.2.1)]) (IntKind.i64.wrap (x + unz n1)) (IntKind.i64.wrap (y + unz n2)) (a + c1 + c2) (by omega) (by simp; omega) (by simp; omega)
              refine this.trans ?_
              rw [List.drop_drop, Nat.add_assoc]
          · rw [if_neg hP] at st0
            rw [if_neg hP]
            exact runW_out st0
    · have hnil : s.data.toList.drop a = [] := List.drop_eq_nil_of_le (by omega)
      rw [hnil, upk]
      by_cases hacc0 : acc = []
      · subst hacc0
        rw [if_neg (fun h => h.2 rfl)]
        have hkk := upl_two s hs x y a ha [] (a : Int) s (s.size : Int) (decide ((a : Int) < (s.size : Int))) false true [] false
        have hk2 : k2_impl_UnpackPlaces_0 R s [] [x, y] (a : Int) [] false = W_impl_UnpackPlaces_1 R (s, (), [x, y], (a : Int), 0, [], (a : Int), s, (s.size : Int), decide ((a : Int) < (s.size : Int)), false, true, [], false, ()) := rfl
        rw [hkk, hnil] at hk2
        have hrd : rdN 5 [] 0 0 = none := rfl
        rw [hrd] at hk2 ⊢
        refine runW_out ?_
        show st_impl_UnpackPlaces_0 R s [] [x, y] (a : Int) [] false = _
        unfold st_impl_UnpackPlaces_0
        rw [hk2, df (show ¬ (a : Int) < (s.size : Int) by omega)]; rfl
      · rw [if_pos ⟨rfl, hacc0⟩]
        refine runW_out ?_
        show st_impl_UnpackPlaces_0 R s acc [x, y] (a : Int) [] false = _
        unfold st_impl_UnpackPlaces_0
        have hlen : ((acc.length : Int) == 0) = false := by
          have : acc.length ≠ 0 := fun h => hacc0 (List.eq_nil_of_length_eq_zero h)
          have : ¬ (acc.length : Int) = 0 := by omega
          simpa using this
        rw [df (show ¬ (a : Int) < (s.size : Int) by omega), hlen, Nat.beq_refl, Nat.beq_refl]; rfl
theorem upl_c0 (s : ByteArray) (hs : s.size ≤ 4194304) : c0_impl_UnpackPlaces R s = some (match upk 66 s.data.toList [] 0 0 with
        | none => .inl ((), false, ())
        | some l => .inr (s, l, [], false, ())) := by
  have h := upl_run s hs 66 [] 0 0 0 (Nat.zero_le _) rfl (Nat.zero_le _)
  rw [List.drop_zero] at h
  exact h
end Go.Dv
