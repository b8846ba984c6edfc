/- Nets: they are valid for both alike. -/
/- Shortest routes: one road. -/
import Derived.Test.YtggaemodkekeeaaWnh
import Derived.Test.YtggaemodkekeeaaWnb
import Derived.Test.YtggaemodkekeeaaLlf
import Derived.Test.YtggaemodkekeeaaNc
import Derived.Test.YtggaemodkekeeaaGz
import Derived.Test.YtggaemodkekeeaaYm

set_option linter.unusedSimpArgs false
set_option linter.unusedVariables false
namespace Go.Dv
open Go.Cv

abbrev Rd := Int × Int × Int
def rd0 : Rd := (0, 0, 0)
def rdOk (r : Rd) (last : Int) : Bool := p_impl_ValidNet_1 R r.1 r.2.1 r.2.2 last
theorem in_within (x a b : Int) : p_spec_l00In R x a b = p_impl_within R x a b := by
  unfold p_spec_l00In p_impl_within
  rfl

theorem areAllR_run (l : List Rd) (hl : l.length ≤ 1048576) (last : Int) :
    ∃ t : Bool, p_impl_areAll_impl_Road R l last = t ∧ r_impl_areAll_impl_Road R l last = true ∧ (t = true ↔ ∀ i, i < l.length → rdOk (l.getD i rd0) last = true) := by
  have hr := runW_scan (n := l.length) (step := fun x => st_slices_IndexFunc_impl_Road_impl_Road_k_0 R x.1 x.2.1.1 x.2.2.1 x.2.2.2.1 x.2.2.2.2.1) (test := fun i => rdOk (l.getD i rd0) last) (mk := fun i => (l, (last, ()), (l.length : Int), (i : Int), 0, ())) (oT := .inr (0, ())) (oF := fun i => .inl ((i : Int), ()))
    (fun i hi => by
      simp only [st_slices_IndexFunc_impl_Road_impl_Road_k_0]
      rw [wrap_succ (by omega)]
      have a1 : decide ((i : Int) < (l.length : Int)) = true := dt (by omega)
      have a2 : decide (0 ≤ (i : Int)) = true := dt (by omega)
      have hg : l.getD ((i : Int)).toNat (0, 0, 0) = l.getD i rd0 := rfl
      rw [a1, a2, hg]
      unfold p_impl_areAll_impl_Road_1 rdOk
      cases p_impl_ValidNet_1 R (l.getD i rd0).1 (l.getD i rd0).2.1 (l.getD i rd0).2.2 last <;> rfl)
    (by
      simp only [st_slices_IndexFunc_impl_Road_impl_Road_k_0]
      rw [df (show ¬ (l.length : Int) < (l.length : Int) by omega)]; rfl)
  have hc : c0_slices_IndexFunc_impl_Road_impl_Road_k R l last = runW (fun x => st_slices_IndexFunc_impl_Road_impl_Road_k_0 R x.1 x.2.1.1 x.2.2.1 x.2.2.2.1 x.2.2.2.2.1) (l, (last, ()), (l.length : Int), ((0 : Nat) : Int), 0, ()) := rfl
  unfold p_impl_areAll_impl_Road r_impl_areAll_impl_Road p_slices_ContainsFunc_impl_Road_impl_Road_k r_slices_ContainsFunc_impl_Road_impl_Road_k c0_slices_ContainsFunc_impl_Road_impl_Road_k p_slices_IndexFunc_impl_Road_impl_Road_k r_slices_IndexFunc_impl_Road_impl_Road_k
  rcases hr with ⟨hall, hr⟩ | ⟨j, hj, ht, hr⟩
  · exact ⟨true, by rw [hc, hr]; rfl, by rw [hc, hr]; rfl, fun _ => hall, fun _ => rfl⟩
  · refine ⟨false, ?_, by rw [hc, hr]; rfl, (fun h => nomatch h), fun h => by rw [h j hj] at ht; cases ht⟩
    rw [hc, hr]
    show (!decide ((j : Int) ≥ 0)) = false
    rw [dt (show (j : Int) ≥ 0 by omega)]; rfl

theorem netS_run (pl : List (Nat × Nat)) (l : List Rd) (hl : l.length ≤ 1048576) (last : Int) :
    ∃ t : Bool, W_spec_l07Net_0 R ((pl, l), last, (l.length : Int), 0, false, ()) = some (bif t then .inr (false, ()) else .inl (false, ())) ∧ (t = true ↔ ∀ i, i < l.length → rdOk (l.getD i rd0) last = true) := by
  have hr := runW_scan (n := l.length) (step := fun x => st_spec_l07Net_0 R x.1.1 x.1.2 x.2.1 x.2.2.1 x.2.2.2.1 x.2.2.2.2.1) (test := fun i => rdOk (l.getD i rd0) last) (mk := fun i => ((pl, l), last, (l.length : Int), (i : Int), false, ())) (oT := .inr (false, ())) (oF := fun i => .inl (false, ()))
    (fun i hi => by
      simp only [st_spec_l07Net_0]
      rw [wrap_succ (by omega)]
      have a1 : decide ((i : Int) < (l.length : Int)) = true := dt (by omega)
      have a2 : decide (0 ≤ (i : Int)) = true := dt (by omega)
      have hg : l.getD ((i : Int)).toNat (0, 0, 0) = l.getD i rd0 := rfl
      rw [a1, a2, hg]
      unfold rdOk p_impl_ValidNet_1
      rw [in_within, in_within, in_within]
      generalize l.getD i rd0 = r
      cases p_impl_within R r.1 0 last
      · rfl
      · cases p_impl_within R r.2.1 0 last
        · rfl
        · have hne : (r.1 != r.2.1) = !(r.1 == r.2.1) := rfl
          rw [hne]
          cases (r.1 == r.2.1)
          · cases p_impl_within R r.2.2 1 1000000 <;> rfl
          · rfl)
    (by
      simp only [st_spec_l07Net_0]
      rw [df (show ¬ (l.length : Int) < (l.length : Int) by omega)]; rfl)
  rcases hr with ⟨hall, hr⟩ | ⟨j, hj, ht, hr⟩
  · exact ⟨true, hr, fun _ => hall, fun _ => rfl⟩
  · exact ⟨false, hr, (fun h => nomatch h), fun h => by rw [h j hj] at ht; cases ht⟩

/-- a valid net -/
def NetOk (pl : List (Nat × Nat)) (l : List Rd) : Prop := (1 ≤ pl.length ∧ pl.length ≤ 64 ∧ ∀ p ∈ pl, p_impl_ValidPlace R p.1 p.2 = true) ∧ l.length ≤ 64 ∧ ∀ i, i < l.length → rdOk (l.getD i rd0) ((pl.length : Int) - 1) = true

theorem net_eq (pl : List (Nat × Nat)) (l : List Rd) (h1 : pl.length ≤ 1048576) (h2 : l.length ≤ 1048576) : p_impl_ValidNet R pl l = p_spec_l07Net R pl l ∧ r_impl_ValidNet R pl l = true ∧ r_spec_l07Net R pl l = true ∧ (p_impl_ValidNet R pl l = true ↔ NetOk pl l) := by
  unfold p_impl_ValidNet r_impl_ValidNet p_spec_l07Net r_spec_l07Net
  rw [dt (show pl.length < 4611686018427387904 by omega)]
  cases hv : ((pl.all fun x => p_impl_ValidPlace R x.1 x.2) && (decide (1 ≤ pl.length) && decide (pl.length ≤ 64)))
  · refine ⟨rfl, rfl, rfl, (fun h => nomatch h), fun h => ?_⟩
    obtain ⟨⟨a1, a2, a3⟩, _⟩ := h
    have : (pl.all fun x => p_impl_ValidPlace R x.1 x.2) = true := List.all_eq_true.2 a3
    rw [this, dt a1, dt a2] at hv; cases hv
  · rw [Bool.and_eq_true, Bool.and_eq_true, decide_eq_true_eq, decide_eq_true_eq, List.all_eq_true] at hv
    obtain ⟨a3, a1, a2⟩ := hv
    by_cases h64 : l.length ≤ 64
    · rw [dt (show (l.length : Int) ≤ 64 by omega), df (show ¬ (l.length : Int) > 64 by omega)]
      have hw : IntKind.i64.wrap ((pl.length : Int) - 1) = (pl.length : Int) - 1 := wrap_small (by omega) (by omega)
      have hlen : p_impl_length_impl_Place R pl = (pl.length : Int) := rfl
      obtain ⟨t, b1, b2, b3⟩ := areAllR_run l h2 ((pl.length : Int) - 1)
      obtain ⟨t', c1, c3⟩ := netS_run pl l h2 ((pl.length : Int) - 1)
      have htt : t = t' := by
        cases t
        · cases t'
          · rfl
          · exact absurd (b3.2 (c3.1 rfl)) (by simp)
        · cases t'
          · exact absurd (c3.2 (b3.1 rfl)) (by simp)
          · rfl
      subst htt
      have e0 : c0_spec_l07Net R pl l = some (bif t then .inr (false, ()) else .inl (false, ())) := by unfold c0_spec_l07Net; rw [hw]; exact c1
      rw [e0, hlen, hw, b1, b2]
      refine ⟨by cases t <;> rfl, rfl, by cases t <;> rfl, fun h => ⟨⟨a1, a2, a3⟩, h64, b3.1 h⟩, fun h => b3.2 h.2.2⟩
    · rw [df (show ¬ (l.length : Int) ≤ 64 by omega), dt (show (l.length : Int) > 64 by omega)]
      exact ⟨rfl, rfl, rfl, (fun h => nomatch h), fun h => absurd h.2.1 h64⟩
end Go.Dv


set_option linter.unusedSimpArgs false
set_option linter.unusedVariables false
namespace Go.Dv
open Go.Cv

/-- one way of a road -/
def rlx (o : List Int) (a b : Nat) : List Int × Bool :=
  if 0 ≤ o.getD a 0 then (if o.getD b 0 < 0 then (o.set b (IntKind.i64.wrap (o.getD a 0 + 1)), true)
    else if IntKind.i64.wrap (o.getD a 0 + 1) < o.getD b 0 then (o.set b (IntKind.i64.wrap (o.getD a 0 + 1)), true) else (o, false)) else (o, false)
/-- both ways -/
def rlx2 (o : List Int) (a b : Nat) : List Int × Bool := ((rlx (rlx o a b).1 b a).1, (rlx o a b).2 || (rlx (rlx o a b).1 b a).2)
theorem rlx_len (o : List Int) (a b : Nat) : (rlx o a b).1.length = o.length := by
  unfold rlx; split <;> (try split) <;> (try split) <;> simp

theorem brt_t {α : Type} (A B : Tr α) : brT true A B = A := rfl
theorem brt_f {α : Type} (A B : Tr α) : brT false A B = B := rfl
theorem blt_tt {a b : Nat} (h : a < b) : Nat.blt a b = true := by rw [Nat.blt_eq]; exact h

theorem routes_step (o : List Int) (rs : List Rd) (n : Int) (i : Nat) (pl : List (Nat × Nat)) (rs' : List Rd) (ch v7 : Bool) {a b : Nat} {L : Int} (hi : (i : Int) < n) (hir : i < rs.length) (hn : n ≤ 1000000) (hr : rs.getD i rd0 = ((a : Int), (b : Int), L)) (ha : a < o.length) (hb : b < o.length) :
    st_impl_Net_routes_1 R o rs n (i : Int) pl rs' ch v7 = some (.inl ((), (rlx2 o a b).1, rs, n, ((i + 1 : Nat) : Int), (), pl, rs', (rlx2 o a b).2 || ch, v7, (), (), ())) := by
  have hg : rs.getD ((i : Int)).toNat (0, 0, 0) = ((a : Int), (b : Int), L) := hr
  have hk : k0_impl_Net_routes_1 R o rs n (i : Int) pl rs' ch v7 = 1 := rfl
  have d1 : decide (0 ≤ (a : Int)) = true := dt (by omega)
  have d2 : decide (0 ≤ (b : Int)) = true := dt (by omega)
  have d3 : decide ((a : Int) < (o.length : Int)) = true := dt (by omega)
  have d4 : decide ((b : Int) < (o.length : Int)) = true := dt (by omega)
  have d5 : Nat.blt a o.length = true := blt_tt ha
  have d6 : Nat.blt b o.length = true := blt_tt hb
  unfold st_impl_Net_routes_1
  dsimp only
  rw [hk, hg, wrap_succ (by omega), dt hi, dt (show 0 ≤ (i : Int) by omega), dt (show (i : Int) < (rs.length : Int) by omega)]
  simp only [List.getD_cons_zero, List.getD_cons_succ, Int.toNat_natCast, List.length_set, d1, d2, d3, d4, d5, d6, Bool.and_self, Bool.and_true, Nat.beq_refl, brt_t]
  unfold rlx2 rlx
  generalize hw : IntKind.i64.wrap (o.getD a 0 + 1) = w
  by_cases c1 : o.getD a 0 ≥ 0
  · rw [dt c1, if_pos c1]
    simp only [brt_t, brt_f]
    by_cases c2 : o.getD b 0 < 0
    · rw [dt c2, if_pos c2]
      simp only [brt_t, brt_f]
      by_cases c3 : (o.set b w).getD b 0 ≥ 0
      · rw [dt c3, if_pos c3]
        simp only [brt_t, brt_f]
        by_cases c4 : (o.set b w).getD a 0 < 0
        · rw [dt c4, if_pos c4]; rfl
        · rw [df c4, if_neg c4]
          simp only [brt_t, brt_f]
          by_cases c5 : IntKind.i64.wrap ((o.set b w).getD b 0 + 1) < (o.set b w).getD a 0
          · rw [dt c5, if_pos c5]; rfl
          · rw [df c5, if_neg c5]; rfl
      · rw [df c3, if_neg c3]; rfl
    · rw [df c2, if_neg c2]
      simp only [brt_t, brt_f]
      by_cases c6 : w < o.getD b 0
      · rw [dt c6, if_pos c6]
        simp only [brt_t, brt_f]
        by_cases c3 : (o.set b w).getD b 0 ≥ 0
        · rw [dt c3, if_pos c3]
          simp only [brt_t, brt_f]
          by_cases c4 : (o.set b w).getD a 0 < 0
          · rw [dt c4, if_pos c4]; rfl
          · rw [df c4, if_neg c4]
            simp only [brt_t, brt_f]
            by_cases c5 : IntKind.i64.wrap ((o.set b w).getD b 0 + 1) < (o.set b w).getD a 0
            · rw [dt c5, if_pos c5]; rfl
            · rw [df c5, if_neg c5]; rfl
        · rw [df c3, if_neg c3]; rfl
      · rw [df c6, if_neg c6]
        simp only [brt_t, brt_f]
        by_cases c3 : (o).getD b 0 ≥ 0
        · rw [dt c3, if_pos c3]
          simp only [brt_t, brt_f]
          by_cases c4 : (o).getD a 0 < 0
          · rw [dt c4, if_pos c4]; rfl
          · rw [df c4, if_neg c4]
            simp only [brt_t, brt_f]
            by_cases c5 : IntKind.i64.wrap ((o).getD b 0 + 1) < (o).getD a 0
            · rw [dt c5, if_pos c5]; rfl
            · rw [df c5, if_neg c5]; rfl
        · rw [df c3, if_neg c3]; rfl
  · rw [df c1, if_neg c1]
    simp only [brt_t, brt_f]
    by_cases c3 : (o).getD b 0 ≥ 0
    · rw [dt c3, if_pos c3]
      simp only [brt_t, brt_f]
      by_cases c4 : (o).getD a 0 < 0
      · rw [dt c4, if_pos c4]; rfl
      · rw [df c4, if_neg c4]
        simp only [brt_t, brt_f]
        by_cases c5 : IntKind.i64.wrap ((o).getD b 0 + 1) < (o).getD a 0
        · rw [dt c5, if_pos c5]; rfl
        · rw [df c5, if_neg c5]; rfl
    · rw [df c3, if_neg c3]; rfl

theorem longs_step (pl : List (Nat × Nat)) (rs : List Rd) (o : List Int) (n : Int) (i : Nat) (ch v7 : Bool) (v8 : List (Nat × Nat)) (v9 : List Rd) (v10 : List (Nat × Nat)) (v11 v12 v13 : List Rd) {a b : Nat} {L : Int} (hi : (i : Int) < n) (hir : i < rs.length) (hn : n ≤ 1000000) (hr : rs.getD i rd0 = ((a : Int), (b : Int), L)) (ha : a < o.length) (hb : b < o.length) :
    st_spec_l07Longs_2 R pl rs true o n (i : Int) ch v7 v8 v9 v10 v11 v12 v13 = some (.inl ((pl, rs), true, (rlx2 o a b).1, n, ((i + 1 : Nat) : Int), (rlx2 o a b).2 || ch, v7, (v8, v9), (v10, v11), v12, v13, (), ())) := by
  have hg : rs.getD ((i : Int)).toNat (0, 0, 0) = ((a : Int), (b : Int), L) := hr
  have d1 : decide (0 ≤ (a : Int)) = true := dt (by omega)
  have d2 : decide (0 ≤ (b : Int)) = true := dt (by omega)
  have d3 : decide ((a : Int) < (o.length : Int)) = true := dt (by omega)
  have d4 : decide ((b : Int) < (o.length : Int)) = true := dt (by omega)
  have d5 : Nat.blt a o.length = true := blt_tt ha
  have d6 : Nat.blt b o.length = true := blt_tt hb
  unfold st_spec_l07Longs_2
  dsimp only
  rw [hg, wrap_succ (by omega), dt hi, dt (show 0 ≤ (i : Int) by omega), dt (show (i : Int) < (rs.length : Int) by omega), Int.toNat_natCast a, Int.toNat_natCast b]
  simp only [List.length_set, d1, d2, d3, d4, d5, d6, Bool.and_self, Bool.and_true, Nat.beq_refl, brt_t]
  unfold rlx2 rlx
  generalize hw : IntKind.i64.wrap (o.getD a 0 + 1) = w
  by_cases c1 : o.getD a 0 ≥ 0
  · rw [dt c1, if_pos c1]
    simp only [brt_t, brt_f]
    by_cases c2 : o.getD b 0 < 0
    · rw [dt c2, if_pos c2]
      simp only [brt_t, brt_f]
      by_cases c3 : (o.set b w).getD b 0 ≥ 0
      · rw [dt c3, if_pos c3]
        simp only [brt_t, brt_f]
        by_cases c4 : (o.set b w).getD a 0 < 0
        · rw [dt c4, if_pos c4]; rfl
        · rw [df c4, if_neg c4]
          simp only [brt_t, brt_f]
          by_cases c5 : IntKind.i64.wrap ((o.set b w).getD b 0 + 1) < (o.set b w).getD a 0
          · rw [dt (show (o.set b w).getD a 0 > IntKind.i64.wrap ((o.set b w).getD b 0 + 1) from c5), if_pos c5]; rfl
          · rw [df (show ¬ (o.set b w).getD a 0 > IntKind.i64.wrap ((o.set b w).getD b 0 + 1) from c5), if_neg c5]; rfl
      · rw [df c3, if_neg c3]; rfl
    · rw [df c2, if_neg c2]
      simp only [brt_t, brt_f]
      by_cases c6 : w < o.getD b 0
      · rw [dt (show o.getD b 0 > w from c6), if_pos c6]
        simp only [brt_t, brt_f]
        by_cases c3 : (o.set b w).getD b 0 ≥ 0
        · rw [dt c3, if_pos c3]
          simp only [brt_t, brt_f]
          by_cases c4 : (o.set b w).getD a 0 < 0
          · rw [dt c4, if_pos c4]; rfl
          · rw [df c4, if_neg c4]
            simp only [brt_t, brt_f]
            by_cases c5 : IntKind.i64.wrap ((o.set b w).getD b 0 + 1) < (o.set b w).getD a 0
            · rw [dt (show (o.set b w).getD a 0 > IntKind.i64.wrap ((o.set b w).getD b 0 + 1) from c5), if_pos c5]; rfl
            · rw [df (show ¬ (o.set b w).getD a 0 > IntKind.i64.wrap ((o.set b w).getD b 0 + 1) from c5), if_neg c5]; rfl
        · rw [df c3, if_neg c3]; rfl
      · rw [df (show ¬ o.getD b 0 > w from c6), if_neg c6]
        simp only [brt_t, brt_f]
        by_cases c3 : (o).getD b 0 ≥ 0
        · rw [dt c3, if_pos c3]
          simp only [brt_t, brt_f]
          by_cases c4 : (o).getD a 0 < 0
          · rw [dt c4, if_pos c4]; rfl
          · rw [df c4, if_neg c4]
            simp only [brt_t, brt_f]
            by_cases c5 : IntKind.i64.wrap ((o).getD b 0 + 1) < (o).getD a 0
            · rw [dt (show (o).getD a 0 > IntKind.i64.wrap ((o).getD b 0 + 1) from c5), if_pos c5]; rfl
            · rw [df (show ¬ (o).getD a 0 > IntKind.i64.wrap ((o).getD b 0 + 1) from c5), if_neg c5]; rfl
        · rw [df c3, if_neg c3]; rfl
  · rw [df c1, if_neg c1]
    simp only [brt_t, brt_f]
    by_cases c3 : (o).getD b 0 ≥ 0
    · rw [dt c3, if_pos c3]
      simp only [brt_t, brt_f]
      by_cases c4 : (o).getD a 0 < 0
      · rw [dt c4, if_pos c4]; rfl
      · rw [df c4, if_neg c4]
        simp only [brt_t, brt_f]
        by_cases c5 : IntKind.i64.wrap ((o).getD b 0 + 1) < (o).getD a 0
        · rw [dt (show (o).getD a 0 > IntKind.i64.wrap ((o).getD b 0 + 1) from c5), if_pos c5]; rfl
        · rw [df (show ¬ (o).getD a 0 > IntKind.i64.wrap ((o).getD b 0 + 1) from c5), if_neg c5]; rfl
    · rw [df c3, if_neg c3]; rfl
end Go.Dv
