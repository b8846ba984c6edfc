/- Matching: the program's sums, place by place. -/
import Derived.Test.YtggaemodkekeeaaLnf

set_option linter.unusedSimpArgs false
set_option linter.unusedVariables false
namespace Go.Dv
open Go.Cv

theorem set_stepI (L : List Int) (i : Nat) (hi : i < L.length) (v : Int) (hv : L[i] = v) : (L.take i ++ List.replicate (L.length - i) 0).set i v = L.take (i + 1) ++ List.replicate (L.length - (i + 1)) 0 := by
  have hlen : (L.take i).length = i := by rw [List.length_take]; omega
  have e : L.length - i = (L.length - (i + 1)) + 1 := by omega
  rw [e, List.replicate_succ, List.set_append, if_neg (by omega), hlen, Nat.sub_self]
  show L.take i ++ (v :: List.replicate (L.length - (i + 1)) 0) = _
  rw [List.take_add_one, List.getElem?_eq_getElem hi, hv, List.append_assoc]; rfl

/-- how far a place of the net lies from a place -/
noncomputable def ms (pl : List (Nat × Nat)) (p : Nat × Nat) (k : Nat) : Int := p_impl_missOf R (pl.getD k (0, 0)).1 (pl.getD k (0, 0)).2 p.1 p.2
noncomputable def nxt (go : Bool) (H : List (List Int)) (s : List Int) (by_ : Int) (pl : List (Nat × Nat)) (p : Nat × Nat) : List Int := (List.range pl.length).map fun k => IntKind.i64.wrap ((inn go H s by_ k pl.length).2 + ms pl p k)
def frm (go : Bool) (H : List (List Int)) (s : List Int) (by_ : Int) (N : Nat) : List Int := (List.range N).map fun k => (inn go H s by_ k N).1
theorem nxt_len (go : Bool) (H : List (List Int)) (s : List Int) (by_ : Int) (pl : List (Nat × Nat)) (p : Nat × Nat) : (nxt go H s by_ pl p).length = pl.length := by simp [nxt]
theorem frm_len (go : Bool) (H : List (List Int)) (s : List Int) (by_ : Int) (N : Nat) : (frm go H s by_ N).length = N := by simp [frm]

theorem in2_step (by_ : Int) (H : List (List Int)) (s : List Int) (i k : Nat) (p1 p2 : Nat) (nx fr : List Int) (pl : List (Nat × Nat)) (v11 v12 : List (Nat × Nat)) (v13 : List Rd) (v14 : List (List Int)) (v15 : List (Nat × Nat)) (v16 v17 : Int) (v18 : Bool) (v19 : Int) (v20 v21 v22 v23 : Nat) (v25 v28 : Int) (v30 : List (List Int)) (v31 : Int) (v32 : Bool)
    (hk : k < pl.length) (hN : pl.length ≤ 64) (hs : s.length = pl.length) (hH : H.length = pl.length) (hr : ∀ j, j < pl.length → (H.getD j []).length = pl.length) (h1 : nx.length = pl.length) (h2 : fr.length = pl.length)
    (hm : r_impl_missOf R (pl.getD k (0, 0)).1 (pl.getD k (0, 0)).2 p1 p2 = true) :
    st_impl_MatchTrack_2 R by_ H s (i : Int) p1 p2 nx fr pl (pl.length : Int) (k : Int) v11 v12 v13 v14 v15 v16 v17 v18 v19 v20 v21 v22 v23 s v25 nx s v28 fr v30 v31 v32 =
      some (.inl (by_, H, s, (i : Int), (), p1, p2, nx.set k (IntKind.i64.wrap ((inn (decide ((i : Int) > 0)) H s by_ k pl.length).2 + ms pl (p1, p2) k)), fr.set k (inn (decide ((i : Int) > 0)) H s by_ k pl.length).1, pl, (pl.length : Int), ((k + 1 : Nat) : Int), v11, (), v12, v13, v14, v15, v16, v17, v18, v19, (v20, v21), (v22, v23), s, v25, nx.set k (IntKind.i64.wrap ((inn (decide ((i : Int) > 0)) H s by_ k pl.length).2 + ms pl (p1, p2) k)), s, v28, fr.set k (inn (decide ((i : Int) > 0)) H s by_ k pl.length).1, (), v30, v31, v32, ())) := by
  have hrun := in3_run by_ H s i k pl.length v11 v12 v13 v14 p1 p2 nx fr (pl.getD k (0, 0)).1 (pl.getD k (0, 0)).2 v15 v16 v17 v18 v19 v20 v21 v22 v23 v25 v28 pl (pl.length : Int) (k : Int) true (k : Int) (pl.getD k (0, 0)).1 (pl.getD k (0, 0)).2 (pl.getD k (0, 0)).1 (pl.getD k (0, 0)).2 v30 v31 v32 hN hs hH (fun j hj => by rw [hr j hj]; exact hk)
  have hk0 := Eq.trans (a := k0_impl_MatchTrack_2 R by_ H s (i : Int) p1 p2 nx fr pl (pl.length : Int) (k : Int) v11 v12 v13 v14 v15 v16 v17 v18 v19 v20 v21 v22 v23 s v25 nx s v28 fr v30 v31 v32) (by unfold k0_impl_MatchTrack_2; rw [hs]; rfl) hrun
  have hq : pl.getD ((k : Int)).toNat (0, 0) = pl.getD k (0, 0) := rfl
  unfold st_impl_MatchTrack_2
  dsimp only
  rw [hk0, dt (show (k : Int) < (pl.length : Int) by omega), dt (show 0 ≤ (k : Int) by omega)]
  simp only [Option.getD_some, Option.isSome_some, hq, Int.toNat_natCast, List.length_set]
  rw [hm, wrap_succ (by omega), blt_tt (show k < nx.length by omega), blt_tt (show k < fr.length by omega)]
  have d1 : decide (0 ≤ (k : Int)) = true := dt (by omega)
  have d2 : decide ((k : Int) < (nx.length : Int)) = true := dt (by omega)
  have d3 : decide ((k : Int) < (fr.length : Int)) = true := dt (by omega)
  simp only [d1, d2, d3, Bool.and_self, Bool.and_true, Nat.beq_refl, brt_t]
  rfl

theorem in2_run (by_ : Int) (H : List (List Int)) (s : List Int) (i : Nat) (p1 p2 : Nat) (pl : List (Nat × Nat)) (v11 v12 : List (Nat × Nat)) (v13 : List Rd) (v14 : List (List Int)) (v15 : List (Nat × Nat)) (v16 v17 : Int) (v18 : Bool) (v19 : Int) (v20 v21 v22 v23 : Nat) (v25 v28 : Int) (v30 : List (List Int)) (v31 : Int) (v32 : Bool)
    (hN : pl.length ≤ 64) (hs : s.length = pl.length) (hH : H.length = pl.length) (hr : ∀ j, j < pl.length → (H.getD j []).length = pl.length)
    (hm : ∀ k, k < pl.length → r_impl_missOf R (pl.getD k (0, 0)).1 (pl.getD k (0, 0)).2 p1 p2 = true) :
    W_impl_MatchTrack_2 R (by_, H, s, (i : Int), (), p1, p2, List.replicate pl.length 0, List.replicate pl.length 0, pl, (pl.length : Int), 0, v11, (), v12, v13, v14, v15, v16, v17, v18, v19, (v20, v21), (v22, v23), s, v25, List.replicate pl.length 0, s, v28, List.replicate pl.length 0, (), v30, v31, v32, ()) =
      some (v11, by_, (), v12, v13, H, v14, s, (i : Int), (), p1, p2, nxt (decide ((i : Int) > 0)) H s by_ pl (p1, p2), frm (decide ((i : Int) > 0)) H s by_ pl.length, v15, v16, v17, v18, v19, (v20, v21), (v22, v23), s, v25, nxt (decide ((i : Int) > 0)) H s by_ pl (p1, p2), s, v28, frm (decide ((i : Int) > 0)) H s by_ pl.length, (), pl, (pl.length : Int), (pl.length : Int), false, v30, v31, v32, ()) := by
  have hnl := nxt_len (decide ((i : Int) > 0)) H s by_ pl (p1, p2)
  have hfl := frm_len (decide ((i : Int) > 0)) H s by_ pl.length
  have hng : ∀ k (hk : k < pl.length), (nxt (decide ((i : Int) > 0)) H s by_ pl (p1, p2))[k]'(by rw [hnl]; exact hk) = IntKind.i64.wrap ((inn (decide ((i : Int) > 0)) H s by_ k pl.length).2 + ms pl (p1, p2) k) := fun k hk => by simp [nxt]
  have hfg : ∀ k (hk : k < pl.length), (frm (decide ((i : Int) > 0)) H s by_ pl.length)[k]'(by rw [hfl]; exact hk) = (inn (decide ((i : Int) > 0)) H s by_ k pl.length).1 := fun k hk => by simp [frm]
  generalize hNV : nxt (decide ((i : Int) > 0)) H s by_ pl (p1, p2) = nv at *
  generalize hFV : frm (decide ((i : Int) > 0)) H s by_ pl.length = fv at *
  have hrun := runW_count (n := pl.length) (step := fun x => st_impl_MatchTrack_2 R x.1 x.2.1 x.2.2.1 x.2.2.2.1 x.2.2.2.2.2.1 x.2.2.2.2.2.2.1 x.2.2.2.2.2.2.2.1 x.2.2.2.2.2.2.2.2.1 x.2.2.2.2.2.2.2.2.2.1 x.2.2.2.2.2.2.2.2.2.2.1 x.2.2.2.2.2.2.2.2.2.2.2.1 x.2.2.2.2.2.2.2.2.2.2.2.2.1 x.2.2.2.2.2.2.2.2.2.2.2.2.2.2.1 x.2.2.2.2.2.2.2.2.2.2.2.2.2.2.2.1 x.2.2.2.2.2.2.2.2.2.2.2.2.2.2.2.2.1 x.2.2.2.2.2.2.2.2.2.2.2.2.2.2.2.2.2.1 x.2.2.2.2.2.2.2.2.2.2.2.2.2.2.2.2.2.2.1 x.2.2.2.2.2.2.2.2.2.2.2.2.2.2.2.2.2.2.2.1 x.2.2.2.2.2.2.2.2.2.2.2.2.2.2.2.2.2.2.2.2.1 x.2.2.2.2.2.2.2.2.2.2.2.2.2.2.2.2.2.2.2.2.2.1 x.2.2.2.2.2.2.2.2.2.2.2.2.2.2.2.2.2.2.2.2.2.2.1.1 x.2.2.2.2.2.2.2.2.2.2.2.2.2.2.2.2.2.2.2.2.2.2.1.2 x.2.2.2.2.2.2.2.2.2.2.2.2.2.2.2.2.2.2.2.2.2.2.2.1.1 x.2.2.2.2.2.2.2.2.2.2.2.2.2.2.2.2.2.2.2.2.2.2.2.1.2 x.2.2.2.2.2.2.2.2.2.2.2.2.2.2.2.2.2.2.2.2.2.2.2.2.1 x.2.2.2.2.2.2.2.2.2.2.2.2.2.2.2.2.2.2.2.2.2.2.2.2.2.1 x.2.2.2.2.2.2.2.2.2.2.2.2.2.2.2.2.2.2.2.2.2.2.2.2.2.2.1 x.2.2.2.2.2.2.2.2.2.2.2.2.2.2.2.2.2.2.2.2.2.2.2.2.2.2.2.1 x.2.2.2.2.2.2.2.2.2.2.2.2.2.2.2.2.2.2.2.2.2.2.2.2.2.2.2.2.1 x.2.2.2.2.2.2.2.2.2.2.2.2.2.2.2.2.2.2.2.2.2.2.2.2.2.2.2.2.2.1 x.2.2.2.2.2.2.2.2.2.2.2.2.2.2.2.2.2.2.2.2.2.2.2.2.2.2.2.2.2.2.2.1 x.2.2.2.2.2.2.2.2.2.2.2.2.2.2.2.2.2.2.2.2.2.2.2.2.2.2.2.2.2.2.2.2.1 x.2.2.2.2.2.2.2.2.2.2.2.2.2.2.2.2.2.2.2.2.2.2.2.2.2.2.2.2.2.2.2.2.2.1)
    (mk := fun k => (by_, H, s, (i : Int), (), p1, p2, nv.take k ++ List.replicate (nv.length - k) 0, fv.take k ++ List.replicate (fv.length - k) 0, pl, (pl.length : Int), (k : Int), v11, (), v12, v13, v14, v15, v16, v17, v18, v19, (v20, v21), (v22, v23), s, v25, nv.take k ++ List.replicate (nv.length - k) 0, s, v28, fv.take k ++ List.replicate (fv.length - k) 0, (), v30, v31, v32, ()))
    (o := (v11, by_, (), v12, v13, H, v14, s, (i : Int), (), p1, p2, nv, fv, v15, v16, v17, v18, v19, (v20, v21), (v22, v23), s, v25, nv, s, v28, fv, (), pl, (pl.length : Int), (pl.length : Int), false, v30, v31, v32, ()))
    (fun k hk => by
      have h1 : (nv.take k ++ List.replicate (nv.length - k) (0 : Int)).length = pl.length := by simp; omega
      have h2 : (fv.take k ++ List.replicate (fv.length - k) (0 : Int)).length = pl.length := by simp; omega
      have hst := in2_step by_ H s i k p1 p2 (nv.take k ++ List.replicate (nv.length - k) 0) (fv.take k ++ List.replicate (fv.length - k) 0) pl v11 v12 v13 v14 v15 v16 v17 v18 v19 v20 v21 v22 v23 v25 v28 v30 v31 v32 hk hN hs hH hr h1 h2 (hm k hk)
      rw [← hng k hk, ← hfg k hk, set_stepI nv k (by omega) _ rfl, set_stepI fv k (by omega) _ rfl] at hst
      exact hst)
    (by
      have e1 : nv.take pl.length ++ List.replicate (nv.length - pl.length) (0 : Int) = nv := by rw [hnl, Nat.sub_self, List.take_of_length_le (by omega)]; simp
      have e2 : fv.take pl.length ++ List.replicate (fv.length - pl.length) (0 : Int) = fv := by rw [hfl, Nat.sub_self, List.take_of_length_le (by omega)]; simp
      show st_impl_MatchTrack_2 R by_ H s (i : Int) p1 p2 (nv.take pl.length ++ List.replicate (nv.length - pl.length) 0) (fv.take pl.length ++ List.replicate (fv.length - pl.length) 0) pl (pl.length : Int) (pl.length : Int) v11 v12 v13 v14 v15 v16 v17 v18 v19 v20 v21 v22 v23 s v25 (nv.take pl.length ++ List.replicate (nv.length - pl.length) 0) s v28 (fv.take pl.length ++ List.replicate (fv.length - pl.length) 0) v30 v31 v32 = _
      rw [e1, e2]
      unfold st_impl_MatchTrack_2
      dsimp only
      rw [df (show ¬ (pl.length : Int) < (pl.length : Int) by omega)]
      simp only [Nat.beq_refl]
      rfl)
  have e1 : nv.take 0 ++ List.replicate (nv.length - 0) (0 : Int) = List.replicate pl.length 0 := by rw [hnl]; rfl
  have e2 : fv.take 0 ++ List.replicate (fv.length - 0) (0 : Int) = List.replicate pl.length 0 := by rw [hfl]; rfl
  simp only [e1, e2] at hrun
  exact hrun

/-- the sums behind the first i places -/
noncomputable def Smx (H : List (List Int)) (by_ : Int) (pl ls : List (Nat × Nat)) : Nat → List Int
  | 0 => List.replicate pl.length 0
  | i + 1 => nxt (decide ((i : Int) > 0)) H (Smx H by_ pl ls i) by_ pl (ls.getD i (0, 0))
noncomputable def Bf (H : List (List Int)) (by_ : Int) (pl ls : List (Nat × Nat)) : Nat → List (List Int)
  | 0 => []
  | i + 1 => Bf H by_ pl ls i ++ [frm (decide ((i : Int) > 0)) H (Smx H by_ pl ls i) by_ pl.length]
theorem sm_len (H : List (List Int)) (by_ : Int) (pl ls : List (Nat × Nat)) : ∀ i, (Smx H by_ pl ls i).length = pl.length
  | 0 => by simp [Smx]
  | i + 1 => nxt_len _ _ _ _ _ _
theorem bf_len (H : List (List Int)) (by_ : Int) (pl ls : List (Nat × Nat)) : ∀ i, (Bf H by_ pl ls i).length = i
  | 0 => rfl
  | i + 1 => by rw [Bf, List.length_append, bf_len H by_ pl ls i]; rfl

theorem in1_run (by_ : Int) (H : List (List Int)) (pl ls : List (Nat × Nat)) (rs : List Rd) (v9 : List (Nat × Nat)) (v10 : List (List Int)) (v11 : Int) (v12 : Bool)
    (hN : pl.length ≤ 64) (hM : ls.length ≤ 64) (hH : H.length = pl.length) (hr : ∀ j, j < pl.length → (H.getD j []).length = pl.length)
    (hm : ∀ k i, k < pl.length → i < ls.length → r_impl_missOf R (pl.getD k (0, 0)).1 (pl.getD k (0, 0)).2 (ls.getD i (0, 0)).1 (ls.getD i (0, 0)).2 = true) :
    W_impl_MatchTrack_1 R (by_, (), pl, rs, H, [], List.replicate pl.length 0, ls, (ls.length : Int), 0, v9, v10, v11, v12, ()) = some (v9, Bf H by_ pl ls ls.length, Smx H by_ pl ls ls.length, v10, v11, v12, ()) := by
  refine runW_count (n := ls.length) (step := fun x => st_impl_MatchTrack_1 R x.1 x.2.2.1 x.2.2.2.1 x.2.2.2.2.1 x.2.2.2.2.2.1 x.2.2.2.2.2.2.1 x.2.2.2.2.2.2.2.1 x.2.2.2.2.2.2.2.2.1 x.2.2.2.2.2.2.2.2.2.1 x.2.2.2.2.2.2.2.2.2.2.1 x.2.2.2.2.2.2.2.2.2.2.2.1 x.2.2.2.2.2.2.2.2.2.2.2.2.1 x.2.2.2.2.2.2.2.2.2.2.2.2.2.1) (mk := fun i => (by_, (), pl, rs, H, Bf H by_ pl ls i, Smx H by_ pl ls i, ls, (ls.length : Int), (i : Int), v9, v10, v11, v12, ())) (o := (v9, Bf H by_ pl ls ls.length, Smx H by_ pl ls ls.length, v10, v11, v12, ())) (fun i hi => ?_) ?_
  · show st_impl_MatchTrack_1 R by_ pl rs H (Bf H by_ pl ls i) (Smx H by_ pl ls i) ls (ls.length : Int) (i : Int) v9 v10 v11 v12 = _
    have hsl := sm_len H by_ pl ls i
    have hbl := bf_len H by_ pl ls i
    have hrun := in2_run by_ H (Smx H by_ pl ls i) i (ls.getD i (0, 0)).1 (ls.getD i (0, 0)).2 pl v9 pl rs (Bf H by_ pl ls i) ls (ls.length : Int) (i : Int) true (i : Int) (ls.getD i (0, 0)).1 (ls.getD i (0, 0)).2 (ls.getD i (0, 0)).1 (ls.getD i (0, 0)).2 (pl.length : Int) (pl.length : Int) v10 v11 v12 hN hsl hH hr (fun k hk => hm k i hk hi)
    have hk0 := Eq.trans (a := k0_impl_MatchTrack_1 R by_ pl rs H (Bf H by_ pl ls i) (Smx H by_ pl ls i) ls (ls.length : Int) (i : Int) v9 v10 v11 v12) (by unfold k0_impl_MatchTrack_1; rw [hsl]; rfl) hrun
    have e1 : Smx H by_ pl ls (i + 1) = nxt (decide ((i : Int) > 0)) H (Smx H by_ pl ls i) by_ pl ((ls.getD i (0, 0)).1, (ls.getD i (0, 0)).2) := rfl
    have e2 : Bf H by_ pl ls (i + 1) = Bf H by_ pl ls i ++ [frm (decide ((i : Int) > 0)) H (Smx H by_ pl ls i) by_ pl.length] := rfl
    unfold st_impl_MatchTrack_1
    dsimp only
    rw [hk0, e1, e2, dt (show (i : Int) < (ls.length : Int) by omega), dt (show 0 ≤ (i : Int) by omega), hsl, dt (show (pl.length : Int) ≤ (pl.length : Int) from Int.le_refl _), dt (show (pl.length : Int) ≤ Int.ofNat 1073741824 by show (pl.length : Int) ≤ (1073741824 : Int); omega)]
    simp only [Option.getD_some, Option.isSome_some, Nat.beq_refl]
    rw [wrap_succ (by omega), ble_of (show (Bf H by_ pl ls i).length + [frm (decide ((i : Int) > 0)) H (Smx H by_ pl ls i) by_ pl.length].length ≤ 1073741824 by rw [hbl]; simp; omega)]
    rfl
  · show st_impl_MatchTrack_1 R by_ pl rs H (Bf H by_ pl ls ls.length) (Smx H by_ pl ls ls.length) ls (ls.length : Int) (ls.length : Int) v9 v10 v11 v12 = _
    unfold st_impl_MatchTrack_1
    dsimp only
    rw [df (show ¬ (ls.length : Int) < (ls.length : Int) by omega)]
    simp only [Nat.beq_refl]
    rfl
end Go.Dv
