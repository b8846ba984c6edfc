/- Shortest routes: both programs' loops end, alike. -/
import Derived.Test.YtggaemodkekeeaaLnc

set_option linter.unusedSimpArgs false
set_option linter.unusedVariables false
namespace Go.Dv
open Go.Cv

def fl1 (x : Int) : Nat := if x < 0 then 1000 else x.toNat
def mu : List Int → Nat
  | [] => 0
  | x :: r => fl1 x + mu r
def ng1 (x : Int) : Nat := if x < 0 then 1 else 0
def ng : List Int → Nat
  | [] => 0
  | x :: r => ng1 x + ng r
theorem mu_set : ∀ (l : List Int) (b : Nat) (w : Int), b < l.length → mu (l.set b w) + fl1 (l.getD b 0) = mu l + fl1 w
  | [], b, w, h => by simp at h
  | x :: r, 0, w, h => by
    show fl1 w + mu r + fl1 x = fl1 x + mu r + fl1 w
    omega
  | x :: r, b + 1, w, h => by
    have := mu_set r b w (by simpa using h)
    show fl1 x + mu (r.set b w) + fl1 (r.getD b 0) = fl1 x + mu r + fl1 w
    omega
theorem ng_set : ∀ (l : List Int) (b : Nat) (w : Int), b < l.length → ng (l.set b w) + ng1 (l.getD b 0) = ng l + ng1 w
  | [], b, w, h => by simp at h
  | x :: r, 0, w, h => by
    show ng1 w + ng r + ng1 x = ng1 x + ng r + ng1 w
    omega
  | x :: r, b + 1, w, h => by
    have := ng_set r b w (by simpa using h)
    show ng1 x + ng (r.set b w) + ng1 (r.getD b 0) = ng1 x + ng r + ng1 w
    omega

/-- longs so far: none greater than how many are known allows -/
def Lg (o : List Int) : Prop := ∀ i, i < o.length → -1 ≤ o.getD i 0 ∧ o.getD i 0 + (ng o : Int) ≤ 64
theorem getD_set (o : List Int) (b i : Nat) (w : Int) (hb : b < o.length) : (o.set b w).getD i 0 = if i = b then w else o.getD i 0 := by
  rw [List.getD_eq_getElem?_getD, List.getElem?_set, List.getD_eq_getElem?_getD]
  by_cases h : b = i
  · subst h; rw [if_pos rfl, if_pos hb, if_pos rfl]; rfl
  · rw [if_neg h, if_neg (by omega)]

theorem rlx_ok {o : List Int} (h : Lg o) {a b : Nat} (ha : a < o.length) (hb : b < o.length) : Lg (rlx o a b).1 ∧ mu (rlx o a b).1 ≤ mu o ∧ ((rlx o a b).2 = true → mu (rlx o a b).1 < mu o) := by
  unfold rlx
  split
  · rename_i h0
    have h1 := h a ha
    have h2 := h b hb
    have hw : IntKind.i64.wrap (o.getD a 0 + 1) = o.getD a 0 + 1 := wrap_small (by omega) (by omega)
    rw [hw]
    have m1 := mu_set o b (o.getD a 0 + 1) hb
    have g1 := ng_set o b (o.getD a 0 + 1) hb
    have fw : fl1 (o.getD a 0 + 1) = (o.getD a 0 + 1).toNat := if_neg (by omega)
    have gw : ng1 (o.getD a 0 + 1) = 0 := if_neg (by omega)
    split
    · rename_i c2
      have fb : fl1 (o.getD b 0) = 1000 := if_pos c2
      have gb : ng1 (o.getD b 0) = 1 := if_pos c2
      refine ⟨fun i hi => ?_, by show mu (o.set b _) ≤ mu o; omega, fun _ => by show mu (o.set b _) < mu o; omega⟩
      have hi : i < o.length := by simpa using hi
      show -1 ≤ (o.set b (o.getD a 0 + 1)).getD i 0 ∧ (o.set b (o.getD a 0 + 1)).getD i 0 + (ng (o.set b (o.getD a 0 + 1)) : Int) ≤ 64
      rw [getD_set _ _ _ _ hb]
      have h3 := h i hi
      split <;> omega
    · rename_i c2
      have fb : fl1 (o.getD b 0) = (o.getD b 0).toNat := if_neg c2
      have gb : ng1 (o.getD b 0) = 0 := if_neg c2
      split
      · rename_i c3
        refine ⟨fun i hi => ?_, by show mu (o.set b _) ≤ mu o; omega, fun _ => by show mu (o.set b _) < mu o; omega⟩
        have hi : i < o.length := by simpa using hi
        show -1 ≤ (o.set b (o.getD a 0 + 1)).getD i 0 ∧ (o.set b (o.getD a 0 + 1)).getD i 0 + (ng (o.set b (o.getD a 0 + 1)) : Int) ≤ 64
        rw [getD_set _ _ _ _ hb]
        have h3 := h i hi
        split <;> omega
      · exact ⟨h, Nat.le_refl _, fun h => by cases h⟩
  · exact ⟨h, Nat.le_refl _, fun h => by cases h⟩

theorem rlx_keep {o : List Int} (h : Lg o) {a b : Nat} (ha : a < o.length) (hb : b < o.length) (f : Nat) (hf : 0 ≤ o.getD f 0) : 0 ≤ (rlx o a b).1.getD f 0 := by
  unfold rlx
  split
  · rename_i h0
    have h1 := h a ha
    have hw : IntKind.i64.wrap (o.getD a 0 + 1) = o.getD a 0 + 1 := wrap_small (by omega) (by omega)
    rw [hw]
    split
    · show 0 ≤ (o.set b _).getD f 0
      rw [getD_set _ _ _ _ hb]; split <;> omega
    · split
      · show 0 ≤ (o.set b _).getD f 0
        rw [getD_set _ _ _ _ hb]; split <;> omega
      · exact hf
  · exact hf

theorem rlx2_ok {o : List Int} (h : Lg o) {a b : Nat} (ha : a < o.length) (hb : b < o.length) : (rlx2 o a b).1.length = o.length ∧ Lg (rlx2 o a b).1 ∧ mu (rlx2 o a b).1 ≤ mu o ∧ ((rlx2 o a b).2 = true → mu (rlx2 o a b).1 < mu o) := by
  have l1 := rlx_len o a b
  obtain ⟨a1, a2, a3⟩ := rlx_ok h ha hb
  have l2 := rlx_len (rlx o a b).1 b a
  obtain ⟨b1, b2, b3⟩ := rlx_ok a1 (a := b) (b := a) (by omega) (by omega)
  unfold rlx2
  refine ⟨by show (rlx (rlx o a b).1 b a).1.length = _; omega, b1, by show mu (rlx (rlx o a b).1 b a).1 ≤ _; omega, fun hc => ?_⟩
  show mu (rlx (rlx o a b).1 b a).1 < _
  have hc : ((rlx o a b).2 || (rlx (rlx o a b).1 b a).2) = true := hc
  rw [Bool.or_eq_true] at hc
  rcases hc with hc | hc
  · have := a3 hc; omega
  · have := b3 hc; omega

theorem rlx2_keep {o : List Int} (h : Lg o) {a b : Nat} (ha : a < o.length) (hb : b < o.length) (f : Nat) (hf : 0 ≤ o.getD f 0) : 0 ≤ (rlx2 o a b).1.getD f 0 := by
  have l1 := rlx_len o a b
  exact rlx_keep (rlx_ok h ha hb).1 (by omega) (by omega) f (rlx_keep h ha hb f hf)

/-- all roads once -/
def rp (rs : List Rd) (o : List Int) : Nat → List Int × Bool
  | 0 => (o, false)
  | i + 1 => ((rlx2 (rp rs o i).1 (rs.getD i rd0).1.toNat (rs.getD i rd0).2.1.toNat).1, (rlx2 (rp rs o i).1 (rs.getD i rd0).1.toNat (rs.getD i rd0).2.1.toNat).2 || (rp rs o i).2)

/-- the roads' places are there -/
def RdsIn (rs : List Rd) (N : Nat) : Prop := ∀ i, i < rs.length → ∃ (a b : Nat) (L : Int), rs.getD i rd0 = ((a : Int), (b : Int), L) ∧ a < N ∧ b < N

theorem rp_ok {rs : List Rd} {o : List Int} (hr : RdsIn rs o.length) (h : Lg o) : ∀ i, i ≤ rs.length → (rp rs o i).1.length = o.length ∧ Lg (rp rs o i).1 ∧ mu (rp rs o i).1 ≤ mu o ∧ ((rp rs o i).2 = true → mu (rp rs o i).1 < mu o)
  | 0, _ => ⟨rfl, h, Nat.le_refl _, fun h => by cases h⟩
  | i + 1, hi => by
    obtain ⟨a1, a2, a3, a4⟩ := rp_ok hr h i (by omega)
    obtain ⟨a, b, L, e, ha, hb⟩ := hr i (by omega)
    obtain ⟨b1, b2, b3, b4⟩ := rlx2_ok a2 (a := a) (b := b) (by omega) (by omega)
    have hA : (rs.getD i rd0).1.toNat = a := by rw [e]; rfl
    have hB : (rs.getD i rd0).2.1.toNat = b := by rw [e]; rfl
    have e1 : (rp rs o (i + 1)) = ((rlx2 (rp rs o i).1 a b).1, (rlx2 (rp rs o i).1 a b).2 || (rp rs o i).2) := by rw [rp, hA, hB]
    rw [e1]
    refine ⟨by show (rlx2 (rp rs o i).1 a b).1.length = _; omega, b2, by show mu (rlx2 (rp rs o i).1 a b).1 ≤ _; omega, fun hc => ?_⟩
    show mu (rlx2 (rp rs o i).1 a b).1 < _
    have hc : ((rlx2 (rp rs o i).1 a b).2 || (rp rs o i).2) = true := hc
    rw [Bool.or_eq_true] at hc
    rcases hc with hc | hc
    · have := b4 hc; omega
    · have := a4 hc; omega

theorem rp_keep {rs : List Rd} {o : List Int} (hr : RdsIn rs o.length) (h : Lg o) (f : Nat) (hf : 0 ≤ o.getD f 0) : ∀ i, i ≤ rs.length → 0 ≤ (rp rs o i).1.getD f 0
  | 0, _ => hf
  | i + 1, hi => by
    obtain ⟨a1, a2, _, _⟩ := rp_ok hr h i (by omega)
    obtain ⟨a, b, L, e, ha, hb⟩ := hr i (by omega)
    have hA : (rs.getD i rd0).1.toNat = a := by rw [e]; rfl
    have hB : (rs.getD i rd0).2.1.toNat = b := by rw [e]; rfl
    have e1 : (rp rs o (i + 1)) = ((rlx2 (rp rs o i).1 a b).1, (rlx2 (rp rs o i).1 a b).2 || (rp rs o i).2) := by rw [rp, hA, hB]
    rw [e1]
    exact rlx2_keep a2 (by omega) (by omega) f (rp_keep hr h f hf i (by omega))

theorem pass_impl (pl : List (Nat × Nat)) {rs : List Rd} {o : List Int} (hl : rs.length ≤ 1000) (hr : RdsIn rs o.length) (h : Lg o) (v7 : Bool) :
    W_impl_Net_routes_1 R ((), o, rs, (rs.length : Int), 0, (), pl, rs, false, v7, (), (), ()) = some ((), (), pl, rs, (rp rs o rs.length).1, (rp rs o rs.length).2, v7, (), rs, (rs.length : Int), (rs.length : Int), false, (), ()) := by
  refine runW_count (n := rs.length) (step := fun x => st_impl_Net_routes_1 R x.2.1 x.2.2.1 x.2.2.2.1 x.2.2.2.2.1 x.2.2.2.2.2.2.1 x.2.2.2.2.2.2.2.1 x.2.2.2.2.2.2.2.2.1 x.2.2.2.2.2.2.2.2.2.1) (mk := fun i => ((), (rp rs o i).1, rs, (rs.length : Int), (i : Int), (), pl, rs, (rp rs o i).2, v7, (), (), ())) (o := ((), (), pl, rs, (rp rs o rs.length).1, (rp rs o rs.length).2, v7, (), rs, (rs.length : Int), (rs.length : Int), false, (), ())) (fun i hi => ?_) ?_
  · obtain ⟨a, b, L, e, ha, hb⟩ := hr i hi
    have a1 := (rp_ok hr h i (by omega)).1
    have hA : (rs.getD i rd0).1.toNat = a := by rw [e]; rfl
    have hB : (rs.getD i rd0).2.1.toNat = b := by rw [e]; rfl
    have e1 : (rp rs o (i + 1)) = ((rlx2 (rp rs o i).1 a b).1, (rlx2 (rp rs o i).1 a b).2 || (rp rs o i).2) := by rw [rp, hA, hB]
    show st_impl_Net_routes_1 R (rp rs o i).1 rs (rs.length : Int) (i : Int) pl rs (rp rs o i).2 v7 = _
    rw [routes_step (rp rs o i).1 rs (rs.length : Int) i pl rs (rp rs o i).2 v7 (by omega) hi (by omega) e (by omega) (by omega), e1]
  · show st_impl_Net_routes_1 R (rp rs o rs.length).1 rs (rs.length : Int) (rs.length : Int) pl rs (rp rs o rs.length).2 v7 = _
    unfold st_impl_Net_routes_1
    dsimp only
    rw [df (show ¬ (rs.length : Int) < (rs.length : Int) by omega)]
    simp only [Nat.beq_refl]
    rfl

theorem pass_spec (pl : List (Nat × Nat)) {rs : List Rd} {o : List Int} (hl : rs.length ≤ 1000) (hr : RdsIn rs o.length) (h : Lg o) (v7 : Bool) (v8 : List (Nat × Nat)) (v9 : List Rd) (v10 : List (Nat × Nat)) (v11 v12 v13 : List Rd) :
    W_spec_l07Longs_2 R ((pl, rs), true, o, (rs.length : Int), 0, false, v7, (v8, v9), (v10, v11), v12, v13, (), ()) = some ((pl, rs), true, (rp rs o rs.length).1, (rp rs o rs.length).2, v7, (v8, v9), (v10, v11), v12, v13, (rs.length : Int), (rs.length : Int), false, (), ()) := by
  refine runW_count (n := rs.length) (step := fun x => st_spec_l07Longs_2 R x.1.1 x.1.2 x.2.1 x.2.2.1 x.2.2.2.1 x.2.2.2.2.1 x.2.2.2.2.2.1 x.2.2.2.2.2.2.1 x.2.2.2.2.2.2.2.1.1 x.2.2.2.2.2.2.2.1.2 x.2.2.2.2.2.2.2.2.1.1 x.2.2.2.2.2.2.2.2.1.2 x.2.2.2.2.2.2.2.2.2.1 x.2.2.2.2.2.2.2.2.2.2.1) (mk := fun i => ((pl, rs), true, (rp rs o i).1, (rs.length : Int), (i : Int), (rp rs o i).2, v7, (v8, v9), (v10, v11), v12, v13, (), ())) (o := ((pl, rs), true, (rp rs o rs.length).1, (rp rs o rs.length).2, v7, (v8, v9), (v10, v11), v12, v13, (rs.length : Int), (rs.length : Int), false, (), ())) (fun i hi => ?_) ?_
  · obtain ⟨a, b, L, e, ha, hb⟩ := hr i hi
    have a1 := (rp_ok hr h i (by omega)).1
    have hA : (rs.getD i rd0).1.toNat = a := by rw [e]; rfl
    have hB : (rs.getD i rd0).2.1.toNat = b := by rw [e]; rfl
    have e1 : (rp rs o (i + 1)) = ((rlx2 (rp rs o i).1 a b).1, (rlx2 (rp rs o i).1 a b).2 || (rp rs o i).2) := by rw [rp, hA, hB]
    show st_spec_l07Longs_2 R pl rs true (rp rs o i).1 (rs.length : Int) (i : Int) (rp rs o i).2 v7 v8 v9 v10 v11 v12 v13 = _
    rw [longs_step pl rs (rp rs o i).1 (rs.length : Int) i (rp rs o i).2 v7 v8 v9 v10 v11 v12 v13 (by omega) hi (by omega) e (by omega) (by omega), e1]
  · show st_spec_l07Longs_2 R pl rs true (rp rs o rs.length).1 (rs.length : Int) (rs.length : Int) (rp rs o rs.length).2 v7 v8 v9 v10 v11 v12 v13 = _
    unfold st_spec_l07Longs_2
    dsimp only
    rw [df (show ¬ (rs.length : Int) < (rs.length : Int) by omega)]
    simp only [Nat.beq_refl]
    rfl

theorem loops_end (pl : List (Nat × Nat)) {rs : List Rd} (hl : rs.length ≤ 1000) : ∀ (m : Nat) (o : List Int) (ch : Bool), RdsIn rs o.length → Lg o → mu o ≤ m →
    ∃ z : List Int, z.length = o.length ∧ (∀ f, 0 ≤ o.getD f 0 → 0 ≤ z.getD f 0) ∧ W_impl_Net_routes_0 R ((), (), pl, rs, o, ch, (), ()) = some (z, (), ()) ∧ W_spec_l07Longs_1 R ((pl, rs), true, o, ch, (), ()) = some (z, (), ()) := by
  intro m
  induction m with
  | zero =>
    intro o ch hr h hm
    have key : ∀ o : List Int, Lg o → ∃ z : List Int, z.length = o.length ∧ (∀ f, 0 ≤ o.getD f 0 → 0 ≤ z.getD f 0) ∧ W_impl_Net_routes_0 R ((), (), pl, rs, o, false, (), ()) = some (z, (), ()) ∧ W_spec_l07Longs_1 R ((pl, rs), true, o, false, (), ()) = some (z, (), ()) := fun o h => by
      refine ⟨o, rfl, (fun f h => h), runW_out (x := ((), (), pl, rs, o, false, (), ())) ?_, runW_out (x := ((pl, rs), true, o, false, (), ())) ?_⟩
      · show st_impl_Net_routes_0 R pl rs o false = _
        unfold st_impl_Net_routes_0
        simp only [Nat.beq_refl]; rfl
      · show st_spec_l07Longs_1 R pl rs true o false = _
        unfold st_spec_l07Longs_1
        simp only [Nat.beq_refl]; rfl
    cases ch
    · exact key o h
    · obtain ⟨a1, a2, a3, a4⟩ := rp_ok hr h rs.length (Nat.le_refl _)
      have hc : (rp rs o rs.length).2 = false := by
        cases hc : (rp rs o rs.length).2
        · rfl
        · have := a4 hc; omega
      have s1 : st_impl_Net_routes_0 R pl rs o true = some (.inl ((), (), pl, rs, (rp rs o rs.length).1, (rp rs o rs.length).2, (), ())) := by
        unfold st_impl_Net_routes_0
        have : k0_impl_Net_routes_0 R pl rs o true = _ := pass_impl pl hl hr h true
        rw [this]
        simp only [Option.isSome_some, Option.getD_some, Nat.beq_refl]; rfl
      have s2 : st_spec_l07Longs_1 R pl rs true o true = some (.inl ((pl, rs), true, (rp rs o rs.length).1, (rp rs o rs.length).2, (), ())) := by
        unfold st_spec_l07Longs_1
        have : k0_spec_l07Longs_1 R pl rs true o true = _ := pass_spec pl hl hr h true _ _ _ _ _ _
        rw [this]
        simp only [Option.isSome_some, Option.getD_some, Nat.beq_refl]; rfl
      obtain ⟨z, z1, z2, z3, z4⟩ := key (rp rs o rs.length).1 a2
      rw [hc] at s1 s2
      exact ⟨z, by omega, (fun f hf => z2 f (rp_keep hr h f hf rs.length (Nat.le_refl _))), (runW_on (x := ((), (), pl, rs, o, true, (), ())) s1).trans z3, (runW_on (x := ((pl, rs), true, o, true, (), ())) s2).trans z4⟩
  | succ m ih =>
    intro o ch hr h hm
    cases ch
    · refine ⟨o, rfl, (fun f h => h), runW_out (x := ((), (), pl, rs, o, false, (), ())) ?_, runW_out (x := ((pl, rs), true, o, false, (), ())) ?_⟩
      · show st_impl_Net_routes_0 R pl rs o false = _
        unfold st_impl_Net_routes_0
        simp only [Nat.beq_refl]; rfl
      · show st_spec_l07Longs_1 R pl rs true o false = _
        unfold st_spec_l07Longs_1
        simp only [Nat.beq_refl]; rfl
    · obtain ⟨a1, a2, a3, a4⟩ := rp_ok hr h rs.length (Nat.le_refl _)
      have s1 : st_impl_Net_routes_0 R pl rs o true = some (.inl ((), (), pl, rs, (rp rs o rs.length).1, (rp rs o rs.length).2, (), ())) := by
        unfold st_impl_Net_routes_0
        have : k0_impl_Net_routes_0 R pl rs o true = _ := pass_impl pl hl hr h true
        rw [this]
        simp only [Option.isSome_some, Option.getD_some, Nat.beq_refl]; rfl
      have s2 : st_spec_l07Longs_1 R pl rs true o true = some (.inl ((pl, rs), true, (rp rs o rs.length).1, (rp rs o rs.length).2, (), ())) := by
        unfold st_spec_l07Longs_1
        have : k0_spec_l07Longs_1 R pl rs true o true = _ := pass_spec pl hl hr h true _ _ _ _ _ _
        rw [this]
        simp only [Option.isSome_some, Option.getD_some, Nat.beq_refl]; rfl
      have hnext : ∃ z : List Int, z.length = (rp rs o rs.length).1.length ∧ (∀ f, 0 ≤ (rp rs o rs.length).1.getD f 0 → 0 ≤ z.getD f 0) ∧ W_impl_Net_routes_0 R ((), (), pl, rs, (rp rs o rs.length).1, (rp rs o rs.length).2, (), ()) = some (z, (), ()) ∧ W_spec_l07Longs_1 R ((pl, rs), true, (rp rs o rs.length).1, (rp rs o rs.length).2, (), ()) = some (z, (), ()) := by
        cases hc : (rp rs o rs.length).2
        · refine ⟨(rp rs o rs.length).1, rfl, (fun f h => h), runW_out (x := ((), (), pl, rs, (rp rs o rs.length).1, false, (), ())) ?_, runW_out (x := ((pl, rs), true, (rp rs o rs.length).1, false, (), ())) ?_⟩
          · show st_impl_Net_routes_0 R pl rs (rp rs o rs.length).1 false = _
            unfold st_impl_Net_routes_0
            simp only [Nat.beq_refl]; rfl
          · show st_spec_l07Longs_1 R pl rs true (rp rs o rs.length).1 false = _
            unfold st_spec_l07Longs_1
            simp only [Nat.beq_refl]; rfl
        · exact ih _ true (by rw [a1]; exact hr) a2 (by have := a4 hc; omega)
      obtain ⟨z, z1, z2, z3, z4⟩ := hnext
      exact ⟨z, by omega, (fun f hf => z2 f (rp_keep hr h f hf rs.length (Nat.le_refl _))), (runW_on (x := ((), (), pl, rs, o, true, (), ())) s1).trans z3, (runW_on (x := ((pl, rs), true, o, true, (), ())) s2).trans z4⟩
end Go.Dv
