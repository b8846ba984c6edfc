/- Matching: the reference whole. -/
import Derived.Test.YtggaemodkekeeaaLnj

set_option linter.unusedSimpArgs false
set_option linter.unusedVariables false
namespace Go.Dv
open Go.Cv

theorem ref4_step (by_ : Int) (H : List (List Int)) (s : List Int) (i : Nat) (q : Int × Int) (N j : Nat) (v8 v9 : List (Nat × Nat)) (v10 : List Rd) (v11 : List (List Int)) (v12 : Int) (nx fr : List Int) (v15 : Int) (v16 : List (Nat × Nat)) (v17 : Int) (v18 : Bool) (v19 v20 : Int) (v21 : Bool) (v22 : List (List Int)) (v23 : Int) (v24 : Bool)
    (hj : j < N) (hN : N ≤ 64) (hs : s.length = N) (hH : H.length = N) (hk : ∀ j, j < N → i < (H.getD j []).length) :
    st_spec_MatchTrack_4 R by_ (N : Int) H s (i : Int) q.1 q.2 (j : Int) v8 v9 v10 v11 v12 nx fr v15 v16 v17 v18 v19 v20 v21 v22 v23 v24 =
      some (.inl (by_, (N : Int), H, s, (i : Int), (if (H.getD j []).getD i 0 ≥ 0 then (if q.1 < 0 then ((j : Int), xs H s by_ i j) else if xs H s by_ i j < q.2 then ((j : Int), xs H s by_ i j) else q) else q).1, (if (H.getD j []).getD i 0 ≥ 0 then (if q.1 < 0 then ((j : Int), xs H s by_ i j) else if xs H s by_ i j < q.2 then ((j : Int), xs H s by_ i j) else q) else q).2, ((j + 1 : Nat) : Int), v8, (), v9, v10, v11, v12, nx, fr, v15, v16, v17, v18, v19, v20, v21, v22, v23, v24, ())) := by
  have d1 : decide (0 ≤ (j : Int)) = true := dt (by omega)
  have d2 : decide ((j : Int) < (H.length : Int)) = true := dt (by omega)
  have d3 : decide ((j : Int) < (s.length : Int)) = true := dt (by omega)
  have d4 : decide (0 ≤ (i : Int)) = true := dt (by omega)
  have hkj := hk j hj
  have d5 : decide ((i : Int) < (((H.getD j []).length : Nat) : Int)) = true := dt (by omega)
  have d6 : Nat.blt j H.length = true := blt_tt (by omega)
  have d7 : Nat.blt j s.length = true := blt_tt (by omega)
  unfold st_spec_MatchTrack_4
  rw [wrap_succ (by omega), dt (show (j : Int) < (N : Int) by omega), Int.toNat_natCast j, Int.toNat_natCast i]
  simp only [d1, d2, d3, d4, d5, d6, d7, Bool.and_self, Bool.and_true, Nat.beq_refl, brt_t]
  have hx : IntKind.i64.wrap (s.getD j 0 + IntKind.i64.wrap (by_ * (H.getD j []).getD i 0)) = xs H s by_ i j := rfl
  rw [hx]
  obtain ⟨q1, q2⟩ := q
  by_cases c1 : (H.getD j []).getD i 0 ≥ 0
  · rw [df (show ¬ (H.getD j []).getD i 0 < 0 by omega), if_pos c1]
    simp only [brt_t, brt_f]
    by_cases c2 : q1 < 0
    · rw [dt c2, if_pos c2]; rfl
    · rw [df c2, if_neg c2]
      simp only [brt_t, brt_f]
      by_cases c3 : xs H s by_ i j < q2
      · rw [dt c3, if_pos c3]; rfl
      · rw [df c3, if_neg c3]; rfl
  · rw [dt (show (H.getD j []).getD i 0 < 0 by omega), if_neg c1]; rfl

theorem ref4_run (by_ : Int) (H : List (List Int)) (s : List Int) (i : Nat) (N : Nat) (v8 v9 : List (Nat × Nat)) (v10 : List Rd) (v11 : List (List Int)) (v12 : Int) (nx fr : List Int) (v15 : Int) (v16 : List (Nat × Nat)) (v17 : Int) (v18 : Bool) (v19 v20 : Int) (v21 : Bool) (v22 : List (List Int)) (v23 : Int) (v24 : Bool)
    (hN : N ≤ 64) (hs : s.length = N) (hH : H.length = N) (hk : ∀ j, j < N → i < (H.getD j []).length) :
    W_spec_MatchTrack_4 R (by_, (N : Int), H, s, (i : Int), Int.negSucc 0, 0, 0, v8, (), v9, v10, v11, v12, nx, fr, v15, v16, v17, v18, v19, v20, v21, v22, v23, v24, ()) =
      some (v8, by_, (), v9, v10, (N : Int), H, s, v11, v12, nx, fr, (i : Int), (inn true H s by_ i N).1, (inn true H s by_ i N).2, (N : Int), v15, v16, v17, v18, v19, v20, v21, (N : Int), (N : Int), false, v22, v23, v24, ()) := by
  unfold W_spec_MatchTrack_4
  refine runW_count (n := N) (mk := fun j => (by_, (N : Int), H, s, (i : Int), (inn true H s by_ i j).1, (inn true H s by_ i j).2, (j : Int), v8, (), v9, v10, v11, v12, nx, fr, v15, v16, v17, v18, v19, v20, v21, v22, v23, v24, ())) (fun j hj => ?_) ?_
  · show st_spec_MatchTrack_4 R by_ (N : Int) H s (i : Int) (inn true H s by_ i j).1 (inn true H s by_ i j).2 (j : Int) v8 v9 v10 v11 v12 nx fr v15 v16 v17 v18 v19 v20 v21 v22 v23 v24 = _
    rw [ref4_step by_ H s i (inn true H s by_ i j) N j v8 v9 v10 v11 v12 nx fr v15 v16 v17 v18 v19 v20 v21 v22 v23 v24 hj hN hs hH hk]
    rfl
  · show st_spec_MatchTrack_4 R by_ (N : Int) H s (i : Int) (inn true H s by_ i N).1 (inn true H s by_ i N).2 (N : Int) v8 v9 v10 v11 v12 nx fr v15 v16 v17 v18 v19 v20 v21 v22 v23 v24 = _
    unfold st_spec_MatchTrack_4
    rw [df (show ¬ (N : Int) < (N : Int) by omega)]
    simp only [Nat.beq_refl]; rfl

/-- the sums and choices of the first n places of the net -/
noncomputable def nxp (H : List (List Int)) (s : List Int) (by_ : Int) (pl : List (Nat × Nat)) (p : Nat × Nat) (n : Nat) : List Int := (List.range n).map fun (k : Nat) => IntKind.i64.wrap ((inn true H s by_ k pl.length).2 + ms pl p k)
def frp (H : List (List Int)) (s : List Int) (by_ : Int) (N n : Nat) : List Int := (List.range n).map fun (k : Nat) => (inn true H s by_ k N).1
theorem nxp_len (H : List (List Int)) (s : List Int) (by_ : Int) (pl : List (Nat × Nat)) (p : Nat × Nat) (n : Nat) : (nxp H s by_ pl p n).length = n := by simp [nxp]
theorem frp_len (H : List (List Int)) (s : List Int) (by_ : Int) (N n : Nat) : (frp H s by_ N n).length = n := by simp [frp]
theorem nxp_succ (H : List (List Int)) (s : List Int) (by_ : Int) (pl : List (Nat × Nat)) (p : Nat × Nat) (n : Nat) : nxp H s by_ pl p n ++ [IntKind.i64.wrap ((inn true H s by_ n pl.length).2 + ms pl p n)] = nxp H s by_ pl p (n + 1) := by simp [nxp, List.range_succ]
theorem frp_succ (H : List (List Int)) (s : List Int) (by_ : Int) (N n : Nat) : frp H s by_ N n ++ [(inn true H s by_ n N).1] = frp H s by_ N (n + 1) := by simp [frp, List.range_succ]

theorem ref3_run (by_ : Int) (H : List (List Int)) (s : List Int) (pl ls : List (Nat × Nat)) (rs : List Rd) (k : Nat) (v11 : List (List Int)) (v12 : Int) (v13 : List (Nat × Nat)) (v14 : Int) (v15 : Bool) (v16 : List (List Int)) (v17 : Int) (v18 : Bool)
    (hN : pl.length ≤ 64) (hk : k < ls.length) (hM : ls.length ≤ 64) (hs : s.length = pl.length) (hH : H.length = pl.length) (hr : ∀ j, j < pl.length → (H.getD j []).length = pl.length) (hQ : MissOk pl ls) :
    W_spec_MatchTrack_3 R (ls, by_, (), pl, rs, (pl.length : Int), H, s, (k : Int), [], [], 0, v11, v12, v13, v14, v15, v16, v17, v18, ()) =
      some (ls, by_, (), pl, rs, (pl.length : Int), H, s, v11, (k : Int), nxp H s by_ pl (ls.getD k (0, 0)) pl.length, frp H s by_ pl.length pl.length, (pl.length : Int), v12, v13, v14, v15, (pl.length : Int), (pl.length : Int), false, v16, v17, v18, ()) := by
  unfold W_spec_MatchTrack_3
  refine runW_count (n := pl.length) (mk := fun i => (ls, by_, (), pl, rs, (pl.length : Int), H, s, (k : Int), nxp H s by_ pl (ls.getD k (0, 0)) i, frp H s by_ pl.length i, (i : Int), v11, v12, v13, v14, v15, v16, v17, v18, ())) (fun i hi => ?_) ?_
  · show st_spec_MatchTrack_3 R ls by_ pl rs (pl.length : Int) H s (k : Int) (nxp H s by_ pl (ls.getD k (0, 0)) i) (frp H s by_ pl.length i) (i : Int) v11 v12 v13 v14 v15 v16 v17 v18 = _
    have hk0 : k0_spec_MatchTrack_3 R ls by_ pl rs (pl.length : Int) H s (k : Int) (nxp H s by_ pl (ls.getD k (0, 0)) i) (frp H s by_ pl.length i) (i : Int) v11 v12 v13 v14 v15 v16 v17 v18 = _ := ref4_run by_ H s i pl.length ls pl rs v11 (k : Int) (nxp H s by_ pl (ls.getD k (0, 0)) i) (frp H s by_ pl.length i) v12 v13 v14 v15 (i : Int) (pl.length : Int) true v16 v17 v18 hN hs hH (fun j hj => by rw [hr j hj]; exact hi)
    obtain ⟨_, q2, q3, _, _⟩ := hQ i k hi hk
    have nl := nxp_len H s by_ pl (ls.getD k (0, 0)) i
    have fl := frp_len H s by_ pl.length i
    unfold st_spec_MatchTrack_3
    dsimp only
    rw [hk0]
    simp only [Option.getD_some, Option.isSome_some, Int.toNat_natCast]
    rw [q2, q3, nxp_succ, frp_succ, wrap_succ (by omega), dtt (show (i : Int) < (pl.length : Int) by omega), dtt (show 0 ≤ (i : Int) by omega), dtt (show 0 ≤ (k : Int) by omega), dtt (show (k : Int) < (ls.length : Int) by omega), ble_of (show (nxp H s by_ pl (ls.getD k (0, 0)) i).length + [IntKind.i64.wrap ((inn true H s by_ i pl.length).2 + ms pl (ls.getD k (0, 0)) i)].length ≤ 1073741824 by rw [nl]; simp; omega), ble_of (show (frp H s by_ pl.length i).length + [(inn true H s by_ i pl.length).1].length ≤ 1073741824 by rw [fl]; simp; omega)]
    simp only [Nat.beq_refl]; rfl
  · show st_spec_MatchTrack_3 R ls by_ pl rs (pl.length : Int) H s (k : Int) (nxp H s by_ pl (ls.getD k (0, 0)) pl.length) (frp H s by_ pl.length pl.length) (pl.length : Int) v11 v12 v13 v14 v15 v16 v17 v18 = _
    unfold st_spec_MatchTrack_3
    dsimp only
    rw [df (show ¬ (pl.length : Int) < (pl.length : Int) by omega)]
    simp only [Nat.beq_refl]; rfl

theorem sums_spec (pl ls : List (Nat × Nat)) (rs : List Rd) (hN : pl.length ≤ 64) (hM : 1 ≤ ls.length) (hQ : MissOk pl ls) (H : List (List Int)) (by_ : Int) (v6 v7 : Int) (v9 : List (List Int)) (v10 : Int) (v11 : Bool) :
    W_spec_MatchTrack_1 R (ls, (), pl, rs, [], (pl.length : Int), 0, v6, v7, H, v9, v10, v11, ()) = some (ls, v6, (), pl, rs, v7, H, Smx H by_ pl ls 1, v9, v10, v11, ()) := by
  have hin : ∀ k n, inn false H (Smx H by_ pl ls 0) by_ k n = (-1, 0) := fun k n => by
    induction n with
    | zero => rfl
    | succ n ih => rw [inn, if_neg (by decide)]; exact ih
  have hS : Smx H by_ pl ls 1 = (List.range pl.length).map fun (k : Nat) => ms pl (ls.getD 0 (0, 0)) k := by
    show nxt (decide (((0 : Nat) : Int) > 0)) H (Smx H by_ pl ls 0) by_ pl (ls.getD 0 (0, 0)) = _
    rw [df (show ¬ ((0 : Nat) : Int) > 0 by omega)]
    unfold nxt
    apply List.map_congr_left
    intro k hk
    rw [List.mem_range] at hk
    obtain ⟨_, _, _, q4, q5⟩ := hQ k 0 hk (by omega)
    rw [hin]
    show IntKind.i64.wrap (0 + ms pl (ls.getD 0 (0, 0)) k) = _
    rw [wrap_small (by omega) (by omega)]; omega
  rw [hS]
  unfold W_spec_MatchTrack_1
  refine runW_count (n := pl.length) (mk := fun i => (ls, (), pl, rs, (List.range i).map (fun (k : Nat) => ms pl (ls.getD 0 (0, 0)) k), (pl.length : Int), (i : Int), v6, v7, H, v9, v10, v11, ())) (fun i hi => ?_) ?_
  · show st_spec_MatchTrack_1 R ls pl rs ((List.range i).map (fun (k : Nat) => ms pl (ls.getD 0 (0, 0)) k)) (pl.length : Int) (i : Int) v6 v7 H v9 v10 v11 = _
    obtain ⟨_, q2, q3, _, _⟩ := hQ i 0 hi (by omega)
    have e : (List.range i).map (fun (k : Nat) => ms pl (ls.getD 0 (0, 0)) k) ++ [ms pl (ls.getD 0 (0, 0)) i] = (List.range (i + 1)).map (fun (k : Nat) => ms pl (ls.getD 0 (0, 0)) k) := by simp [List.range_succ]
    have el : ((List.range i).map (fun (k : Nat) => ms pl (ls.getD 0 (0, 0)) k)).length = i := by simp
    unfold st_spec_MatchTrack_1
    rw [Int.toNat_natCast, q2, q3, e, wrap_succ (by omega), dt (show (i : Int) < (pl.length : Int) by omega), dt (show 0 ≤ (i : Int) by omega), dt (show 0 < (ls.length : Int) by omega), el, ble_of (show i + [ms pl (ls.getD 0 (0, 0)) i].length ≤ 1073741824 by simp; omega)]
    simp only [Nat.beq_refl]; rfl
  · show st_spec_MatchTrack_1 R ls pl rs ((List.range pl.length).map (fun (k : Nat) => ms pl (ls.getD 0 (0, 0)) k)) (pl.length : Int) (pl.length : Int) v6 v7 H v9 v10 v11 = _
    unfold st_spec_MatchTrack_1
    rw [df (show ¬ (pl.length : Int) < (pl.length : Int) by omega)]
    simp only [Nat.beq_refl]; rfl

theorem ref2_run (by_ : Int) (H : List (List Int)) (pl ls : List (Nat × Nat)) (rs : List Rd) (v9 : List (List Int)) (v10 : Int) (v11 : Bool)
    (hN : pl.length ≤ 64) (hM1 : 1 ≤ ls.length) (hM : ls.length ≤ 64) (hH : H.length = pl.length) (hr : ∀ j, j < pl.length → (H.getD j []).length = pl.length) (hQ : MissOk pl ls) :
    W_spec_MatchTrack_2 R (ls, by_, (), pl, rs, (pl.length : Int), H, Smx H by_ pl ls 1, [], 1, v9, v10, v11, ()) = some (ls, Smx H by_ pl ls ls.length, (Bf H by_ pl ls ls.length).tail, v9, v10, v11, ()) := by
  have e1 : (1 : Int) = ((0 + 1 : Nat) : Int) := rfl
  have hz : (ls, by_, (), pl, rs, (pl.length : Int), H, Smx H by_ pl ls 1, ([] : List (List Int)), (1 : Int), v9, v10, v11, ()) = (fun i : Nat => (ls, by_, (), pl, rs, (pl.length : Int), H, Smx H by_ pl ls (i + 1), (Bf H by_ pl ls (i + 1)).tail, ((i + 1 : Nat) : Int), v9, v10, v11, ())) 0 := rfl
  rw [hz]
  unfold W_spec_MatchTrack_2
  refine runW_count (n := ls.length - 1) (mk := fun i : Nat => (ls, by_, (), pl, rs, (pl.length : Int), H, Smx H by_ pl ls (i + 1), (Bf H by_ pl ls (i + 1)).tail, ((i + 1 : Nat) : Int), v9, v10, v11, ())) (fun i hi => ?_) ?_
  · show st_spec_MatchTrack_2 R ls by_ pl rs (pl.length : Int) H (Smx H by_ pl ls (i + 1)) (Bf H by_ pl ls (i + 1)).tail ((i + 1 : Nat) : Int) v9 v10 v11 = _
    have hsl := sm_len H by_ pl ls (i + 1)
    have hk0 : k0_spec_MatchTrack_2 R ls by_ pl rs (pl.length : Int) H (Smx H by_ pl ls (i + 1)) (Bf H by_ pl ls (i + 1)).tail ((i + 1 : Nat) : Int) v9 v10 v11 = _ := ref3_run by_ H (Smx H by_ pl ls (i + 1)) pl ls rs (i + 1) (Bf H by_ pl ls (i + 1)).tail ((i + 1 : Nat) : Int) ls (ls.length : Int) true v9 v10 v11 hN (by omega) hM hsl hH hr hQ
    have es : Smx H by_ pl ls (i + 1 + 1) = nxp H (Smx H by_ pl ls (i + 1)) by_ pl (ls.getD (i + 1) (0, 0)) pl.length := by
      show nxt (decide (((i + 1 : Nat) : Int) > 0)) _ _ _ _ _ = _
      rw [dt (show ((i + 1 : Nat) : Int) > 0 by omega)]; rfl
    have eb : (Bf H by_ pl ls (i + 1 + 1)).tail = (Bf H by_ pl ls (i + 1)).tail ++ [frp H (Smx H by_ pl ls (i + 1)) by_ pl.length pl.length] := by
      show (Bf H by_ pl ls (i + 1) ++ [frm (decide (((i + 1 : Nat) : Int) > 0)) H (Smx H by_ pl ls (i + 1)) by_ pl.length]).tail = _
      rw [dt (show ((i + 1 : Nat) : Int) > 0 by omega), List.tail_append_of_ne_nil (by intro h; have := bf_len H by_ pl ls (i + 1); rw [h] at this; simp at this)]; rfl
    have bl : (Bf H by_ pl ls (i + 1)).tail.length = i := by rw [List.length_tail, bf_len]; omega
    have w1 : IntKind.i64.wrap (((i + 1 : Nat) : Int) + 1) = ((i + 1 + 1 : Nat) : Int) := wrap_succ (by omega)
    unfold st_spec_MatchTrack_2
    dsimp only
    rw [hk0]
    simp only [Option.getD_some, Option.isSome_some]
    rw [← es, ← eb, w1, dtt (show ((i + 1 : Nat) : Int) < (ls.length : Int) by omega), ble_of (show (Bf H by_ pl ls (i + 1)).tail.length + [frp H (Smx H by_ pl ls (i + 1)) by_ pl.length pl.length].length ≤ 1073741824 by rw [bl]; simp; omega)]
    simp only [Nat.beq_refl]; rfl
  · have e2 : ls.length - 1 + 1 = ls.length := by omega
    show st_spec_MatchTrack_2 R ls by_ pl rs (pl.length : Int) H (Smx H by_ pl ls (ls.length - 1 + 1)) (Bf H by_ pl ls (ls.length - 1 + 1)).tail ((ls.length - 1 + 1 : Nat) : Int) v9 v10 v11 = _
    rw [e2]
    unfold st_spec_MatchTrack_2
    dsimp only
    rw [df (show ¬ (ls.length : Int) < (ls.length : Int) by omega)]
    simp only [Nat.beq_refl]; rfl

theorem spec_whole (pl : List (Nat × Nat)) (rs : List Rd) (ls : List (Nat × Nat)) (by_ : Int) (hN1 : 1 ≤ pl.length) (hN : pl.length ≤ 64) (hM1 : 1 ≤ ls.length) (hM : ls.length ≤ 64) (hR : RoutesOk pl rs) (hQ : MissOk pl ls)
    (v1 : r_spec_l07Net R pl rs = true) (v2 : p_spec_l07Net R pl rs = true) (v3 : ((ls.all fun x => p_impl_ValidPlace R x.1 x.2) && (decide (1 ≤ ls.length) && decide (ls.length ≤ 64))) = true) (v4 : p_spec_l00In R by_ 0 1000000 = true) :
    r_spec_MatchTrack R pl rs ls by_ = true ∧ p_spec_MatchTrack R pl rs ls by_ = (os (Bf (Hs pl rs pl.length) by_ pl ls ls.length) (am (Smx (Hs pl rs pl.length) by_ pl ls ls.length) pl.length : Int) ls.length ls.length, (Smx (Hs pl rs pl.length) by_ pl ls ls.length).getD (am (Smx (Hs pl rs pl.length) by_ pl ls ls.length) pl.length) 0, true) := by
  have hH := hs_len pl rs pl.length
  have hr : ∀ j, j < pl.length → ((Hs pl rs pl.length).getD j []).length = pl.length := fun j hj => by rw [hs_get pl rs hj]; exact (hR j hj).2.2.2.1
  have hB := bf_ok pl rs by_ ls hR ls.length
  have hS := sm_len (Hs pl rs pl.length) by_ pl ls ls.length
  have e0 : c0_spec_MatchTrack R pl rs ls by_ = some (ls, by_, (), pl, rs, (pl.length : Int), Hs pl rs pl.length, [], 0, false, ()) := hops_spec pl rs hN hR ls by_ (pl.length : Int) [] 0 false
  generalize Hs pl rs pl.length = H at *
  have e1 : c1_spec_MatchTrack R pl rs ls by_ = some (ls, by_, (), pl, rs, (pl.length : Int), H, Smx H by_ pl ls 1, [], 0, false, ()) := by
    unfold c1_spec_MatchTrack
    rw [e0]
    exact sums_spec pl ls rs hN hM1 hQ H by_ by_ (pl.length : Int) [] 0 false
  have e2 : c2_spec_MatchTrack R pl rs ls by_ = some (ls, Smx H by_ pl ls ls.length, (Bf H by_ pl ls ls.length).tail, [], 0, false, ()) := by
    unfold c2_spec_MatchTrack
    rw [e1]
    exact ref2_run by_ H pl ls rs [] 0 false hN hM1 hM hH hr hQ
  generalize Bf H by_ pl ls ls.length = B at *
  generalize Smx H by_ pl ls ls.length = S at *
  have e3 : c3_spec_MatchTrack R pl rs ls by_ = some (ls, S, B.tail, (am S pl.length : Int), [], 0, false, ()) := by
    have h := argmin_spec S (by omega) (by omega) ls B.tail [] 0 false
    unfold c3_spec_MatchTrack
    rw [e2]
    refine Eq.trans h ?_
    rw [hS]
  have ha : am S pl.length < pl.length := by
    obtain ⟨m, hm⟩ : ∃ m, pl.length = m + 1 := ⟨pl.length - 1, by omega⟩
    have := am_lt S m
    rw [hm]; exact this
  have e4 : c4_spec_MatchTrack R pl rs ls by_ = some (S.getD (am S pl.length) 0, os B (am S pl.length : Int) ls.length ls.length, [], 0, false, ()) := by
    have hw := way_spec hB hM1 hM (a := (am S pl.length : Int)) (by omega) (by omega) (S.getD (am S pl.length) 0) [] 0 false
    unfold c4_spec_MatchTrack
    rw [e3]
    simp only [Option.getD_some, Int.toNat_natCast]
    rw [wrap_small (by omega) (by omega)]
    exact hw
  unfold r_spec_MatchTrack p_spec_MatchTrack
  rw [v1, v2, v3, v4, e0, e1, e2, e3, e4]
  simp only [Option.getD_some, Option.isSome_some, Int.toNat_natCast, Nat.beq_refl, List.length_replicate]
  rw [blt_tt (show am S pl.length < S.length by omega)]
  rw [dtt (show (ls.length : Int) ≤ (ls.length : Int) from Int.le_refl _), dtt (show (ls.length : Int) ≤ Int.ofNat 1073741824 by show (ls.length : Int) ≤ (1073741824 : Int); omega), dtt (show ls.length < 4611686018427387904 by omega), dtt (show 0 ≤ (am S pl.length : Int) by omega), dtt (show (am S pl.length : Int) < (S.length : Int) by omega)]
  exact ⟨rfl, rfl⟩
end Go.Dv
