/- Matching: the inner loops of the program. -/
import Derived.Test.YtggaemodkekeeaaLne
import Derived.Test.YtggaemodkekeeaaWnc

set_option linter.unusedSimpArgs false
set_option linter.unusedVariables false
namespace Go.Dv
open Go.Cv

/-- the sum over a place before -/
def xs (H : List (List Int)) (s : List Int) (by_ : Int) (k j : Nat) : Int := IntKind.i64.wrap (s.getD j 0 + IntKind.i64.wrap (by_ * (H.getD j []).getD k 0))
/-- the best place before, of the first j -/
def inn (go : Bool) (H : List (List Int)) (s : List Int) (by_ : Int) (k : Nat) : Nat → Int × Int
  | 0 => (Int.negSucc 0, 0)
  | j + 1 => if go = true then (if (H.getD j []).getD k 0 ≥ 0 then (if (inn go H s by_ k j).1 < 0 then ((j : Int), xs H s by_ k j) else if xs H s by_ k j < (inn go H s by_ k j).2 then ((j : Int), xs H s by_ k j) else inn go H s by_ k j) else inn go H s by_ k j) else inn go H s by_ k j

theorem in3_step (by_ : Int) (H : List (List Int)) (s : List Int) (i k : Nat) (q : Int × Int) (N j : Nat) (v9 v10 : List (Nat × Nat)) (v11 : List Rd) (v12 : List (List Int)) (v13 v14 : Nat) (nx fr : List Int) (v17 v18 : Nat) (v19 : List (Nat × Nat)) (v20 v21 : Int) (v22 : Bool) (v23 : Int) (v24 v25 v26 v27 : Nat) (v29 v32 : Int) (v34 : List (Nat × Nat)) (v35 v36 : Int) (v37 : Bool) (v38 : Int) (v39 v40 v41 v42 : Nat) (v44 : List (List Int)) (v45 : Int) (v46 : Bool)
    (hj : j < N) (hN : N ≤ 64) (hs : s.length = N) (hH : H.length = N) (hk : ∀ j, j < N → k < (H.getD j []).length) :
    st_impl_MatchTrack_3 R by_ H s (i : Int) (k : Int) q.1 q.2 (N : Int) (j : Int) v9 v10 v11 v12 v13 v14 nx fr v17 v18 v19 v20 v21 v22 v23 v24 v25 v26 v27 s v29 nx s v32 fr v34 v35 v36 v37 v38 v39 v40 v41 v42 s v44 v45 v46 =
      some (.inl (by_, H, s, (i : Int), (k : Int), (if decide ((i : Int) > 0) = true then (if (H.getD j []).getD k 0 ≥ 0 then (if q.1 < 0 then ((j : Int), xs H s by_ k j) else if xs H s by_ k j < q.2 then ((j : Int), xs H s by_ k j) else q) else q) else q).1, (if decide ((i : Int) > 0) = true then (if (H.getD j []).getD k 0 ≥ 0 then (if q.1 < 0 then ((j : Int), xs H s by_ k j) else if xs H s by_ k j < q.2 then ((j : Int), xs H s by_ k j) else q) else q) else q).2, (N : Int), ((j + 1 : Nat) : Int), v9, (), v10, v11, v12, (), v13, v14, nx, fr, (), v17, v18, v19, v20, v21, v22, v23, (v24, v25), (v26, v27), s, v29, nx, s, v32, fr, (), v34, v35, v36, v37, v38, (v39, v40), (v41, v42), s, v44, v45, v46, ())) := by
  have d1 : decide (0 ≤ (j : Int)) = true := dt (by omega)
  have d2 : decide ((j : Int) < (H.length : Int)) = true := dt (by omega)
  have d3 : decide ((j : Int) < (s.length : Int)) = true := dt (by omega)
  have d4 : decide (0 ≤ (k : Int)) = true := dt (by omega)
  have hkj := hk j hj
  have d5 : decide ((k : Int) < (((H.getD j []).length : Nat) : Int)) = true := dt (by omega)
  have d6 : Nat.blt j H.length = true := blt_tt (by omega)
  have d7 : Nat.blt j s.length = true := blt_tt (by omega)
  unfold st_impl_MatchTrack_3
  rw [wrap_succ (by omega), dt (show (j : Int) < (N : Int) by omega), Int.toNat_natCast j, Int.toNat_natCast k]
  simp only [d1, d2, d3, d4, d5, d6, d7, Bool.and_self, Bool.and_true, Nat.beq_refl, brt_t]
  have hx : IntKind.i64.wrap (s.getD j 0 + IntKind.i64.wrap (by_ * (H.getD j []).getD k 0)) = xs H s by_ k j := rfl
  rw [hx]
  obtain ⟨q1, q2⟩ := q
  by_cases c0 : (i : Int) > 0
  · rw [dt c0, if_pos rfl]
    simp only [brt_t, brt_f]
    by_cases c1 : (H.getD j []).getD k 0 ≥ 0
    · rw [dt c1, if_pos c1]
      simp only [brt_t, brt_f]
      by_cases c2 : q1 < 0
      · rw [dt c2, if_pos c2]; rfl
      · rw [df c2, if_neg c2]
        simp only [brt_t, brt_f]
        by_cases c3 : xs H s by_ k j < q2
        · rw [dt c3, if_pos c3]; rfl
        · rw [df c3, if_neg c3]; rfl
    · rw [df c1, if_neg c1]; rfl
  · rw [df c0]; rfl

theorem in3_run (by_ : Int) (H : List (List Int)) (s : List Int) (i k : Nat) (N : Nat) (v9 v10 : List (Nat × Nat)) (v11 : List Rd) (v12 : List (List Int)) (v13 v14 : Nat) (nx fr : List Int) (v17 v18 : Nat) (v19 : List (Nat × Nat)) (v20 v21 : Int) (v22 : Bool) (v23 : Int) (v24 v25 v26 v27 : Nat) (v29 v32 : Int) (v34 : List (Nat × Nat)) (v35 v36 : Int) (v37 : Bool) (v38 : Int) (v39 v40 v41 v42 : Nat) (v44 : List (List Int)) (v45 : Int) (v46 : Bool)
    (hN : N ≤ 64) (hs : s.length = N) (hH : H.length = N) (hk : ∀ j, j < N → k < (H.getD j []).length) :
    W_impl_MatchTrack_3 R (by_, H, s, (i : Int), (k : Int), Int.negSucc 0, 0, (N : Int), 0, v9, (), v10, v11, v12, (), v13, v14, nx, fr, (), v17, v18, v19, v20, v21, v22, v23, (v24, v25), (v26, v27), s, v29, nx, s, v32, fr, (), v34, v35, v36, v37, v38, (v39, v40), (v41, v42), s, v44, v45, v46, ()) =
      some (v9, by_, (), v10, v11, H, v12, s, (i : Int), (), v13, v14, nx, fr, (k : Int), (), v17, v18, (inn (decide ((i : Int) > 0)) H s by_ k N).1, (inn (decide ((i : Int) > 0)) H s by_ k N).2, v19, v20, v21, v22, v23, (v24, v25), (v26, v27), s, v29, nx, s, v32, fr, (), v34, v35, v36, v37, v38, (v39, v40), (v41, v42), s, (N : Int), (N : Int), false, v44, v45, v46, ()) := by
  have key : ∀ d j, j + d = N → W_impl_MatchTrack_3 R (by_, H, s, (i : Int), (k : Int), (inn (decide ((i : Int) > 0)) H s by_ k j).1, (inn (decide ((i : Int) > 0)) H s by_ k j).2, (N : Int), (j : Int), v9, (), v10, v11, v12, (), v13, v14, nx, fr, (), v17, v18, v19, v20, v21, v22, v23, (v24, v25), (v26, v27), s, v29, nx, s, v32, fr, (), v34, v35, v36, v37, v38, (v39, v40), (v41, v42), s, v44, v45, v46, ()) =
      some (v9, by_, (), v10, v11, H, v12, s, (i : Int), (), v13, v14, nx, fr, (k : Int), (), v17, v18, (inn (decide ((i : Int) > 0)) H s by_ k N).1, (inn (decide ((i : Int) > 0)) H s by_ k N).2, v19, v20, v21, v22, v23, (v24, v25), (v26, v27), s, v29, nx, s, v32, fr, (), v34, v35, v36, v37, v38, (v39, v40), (v41, v42), s, (N : Int), (N : Int), false, v44, v45, v46, ()) := by
    intro d
    induction d with
    | zero =>
      intro j hj
      have hj : j = N := by omega
      subst hj
      refine runW_out (x := (by_, H, s, (i : Int), (k : Int), (inn (decide ((i : Int) > 0)) H s by_ k j).1, (inn (decide ((i : Int) > 0)) H s by_ k j).2, (j : Int), (j : Int), v9, (), v10, v11, v12, (), v13, v14, nx, fr, (), v17, v18, v19, v20, v21, v22, v23, (v24, v25), (v26, v27), s, v29, nx, s, v32, fr, (), v34, v35, v36, v37, v38, (v39, v40), (v41, v42), s, v44, v45, v46, ())) ?_
      show st_impl_MatchTrack_3 R by_ H s (i : Int) (k : Int) _ _ (j : Int) (j : Int) v9 v10 v11 v12 v13 v14 nx fr v17 v18 v19 v20 v21 v22 v23 v24 v25 v26 v27 s v29 nx s v32 fr v34 v35 v36 v37 v38 v39 v40 v41 v42 s v44 v45 v46 = _
      unfold st_impl_MatchTrack_3
      rw [df (show ¬ (j : Int) < (j : Int) by omega)]
      simp only [Nat.beq_refl]
      rfl
    | succ d ih =>
      intro j hj
      have h1 := in3_step by_ H s i k (inn (decide ((i : Int) > 0)) H s by_ k j) N j v9 v10 v11 v12 v13 v14 nx fr v17 v18 v19 v20 v21 v22 v23 v24 v25 v26 v27 v29 v32 v34 v35 v36 v37 v38 v39 v40 v41 v42 v44 v45 v46 (by omega) hN hs hH hk
      refine (runW_on (x := (by_, H, s, (i : Int), (k : Int), (inn (decide ((i : Int) > 0)) H s by_ k j).1, (inn (decide ((i : Int) > 0)) H s by_ k j).2, (N : Int), (j : Int), v9, (), v10, v11, v12, (), v13, v14, nx, fr, (), v17, v18, v19, v20, v21, v22, v23, (v24, v25), (v26, v27), s, v29, nx, s, v32, fr, (), v34, v35, v36, v37, v38, (v39, v40), (v41, v42), s, v44, v45, v46, ())) h1).trans ?_
      exact ih (j + 1) (by omega)
  exact key N 0 (by omega)
end Go.Dv
