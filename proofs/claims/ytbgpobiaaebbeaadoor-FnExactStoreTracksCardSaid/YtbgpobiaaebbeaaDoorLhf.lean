/- The plain law of FnExactStoreTracks. -/
import Derived.Test.YtbgpobiaaebbeaaDoorLhe
import Derived.Test.YtbgpobiaaebbeaaDoorWkl

set_option linter.unusedSimpArgs false
namespace Go.Dv
open Go.Cv

abbrev Tk := ByteArray × List (Nat × Nat)
def tk0 : Tk := (ByteArray.mk #[], [])
def tkS (t : Tk) : Prop := t.1.size ≤ 1048576 ∧ t.2.length ≤ 1048576

theorem szTrack_gen (t : Tk) (left : Int) (h0 : 0 ≤ left) (h1 : left ≤ 1048576) (h2 : t.1.size ≤ 9223372036854775807) (h3 : t.2.length ≤ 9223372036854775807) :
    p_laws_szTrack R t.1 t.2 left < 0 ∨ (0 ≤ p_laws_szTrack R t.1 t.2 left ∧ p_laws_szTrack R t.1 t.2 left ≤ 1048576 ∧ tkS t) := by
  obtain ⟨s, l⟩ := t
  unfold tkS
  simp only at h2 h3 ⊢
  unfold p_laws_szTrack c0_laws_szTrack p_laws_szPlaceS
  rw [wrap_small (i := left - (s.size : Int)) (by omega) (by omega)]
  by_cases c1 : left - (s.size : Int) < 0
  · left; rw [dt c1]; show Int.negSucc 0 < 0; decide
  · rw [df c1, wrap_small (i := left - (s.size : Int) - (l.length : Int)) (by omega) (by omega)]
    by_cases c2 : left - (s.size : Int) - (l.length : Int) < 0
    · left; rw [dt c2]; show Int.negSucc 0 < 0; decide
    · right; rw [df c2]
      simp only [cond_false]
      rw [df c2]
      simp only [cond_false]
      omega

theorem szS_run (l : List Tk) (hl : l.length ≤ 1048576) (hx : ∀ i, i < l.length → (l.getD i tk0).1.size ≤ 9223372036854775807 ∧ (l.getD i tk0).2.length ≤ 9223372036854775807) :
    ∀ (k i : Nat) (left : Int), i + k = l.length → 0 ≤ left → left ≤ 1048576 →
      W_laws_szTrackS_0 R (l, left, (i : Int), 0, ()) = some (.inl (Int.negSucc 0, ())) ∨ ∃ m, W_laws_szTrackS_0 R (l, left, (i : Int), 0, ()) = some (.inr (m, 0, ())) ∧ ∀ j, i ≤ j → j < l.length → tkS (l.getD j tk0)
  | 0, i, left, h, _, _ => by
    obtain rfl : i = l.length := by omega
    refine .inr ⟨left, runW_out ?_, fun j h1 h2 => by omega⟩
    simp only [st_laws_szTrackS_0]
    rw [df (show ¬ (l.length : Int) < (l.length : Int) by omega)]; rfl
  | k + 1, i, left, h, h0, h1 => by
    have a1 : decide ((i : Int) < (l.length : Int)) = true := dt (by omega)
    have a2 : decide (0 ≤ (i : Int)) = true := dt (by omega)
    have hg : l.getD ((i : Int)).toNat ((ByteArray.mk #[]), ([] : List (Nat × Nat))) = l.getD i tk0 := rfl
    obtain ⟨x1, x2⟩ := hx i (by omega)
    rcases szTrack_gen (l.getD i tk0) left h0 h1 x1 x2 with c | ⟨c1, c2, c3⟩
    · left
      refine runW_out ?_
      simp only [st_laws_szTrackS_0]
      rw [a1, a2, hg, dt c]; rfl
    · have hs : st_laws_szTrackS_0 R l left (i : Int) 0 = some (.inl (l, p_laws_szTrack R (l.getD i tk0).1 (l.getD i tk0).2 left, ((i + 1 : Nat) : Int), 0, ())) := by
        simp only [st_laws_szTrackS_0]
        rw [a1, a2, hg, df (show ¬ p_laws_szTrack R (l.getD i tk0).1 (l.getD i tk0).2 left < 0 by omega), wrap_succ (by omega)]; rfl
      have hon : W_laws_szTrackS_0 R (l, left, (i : Int), 0, ()) = W_laws_szTrackS_0 R (l, p_laws_szTrack R (l.getD i tk0).1 (l.getD i tk0).2 left, ((i + 1 : Nat) : Int), 0, ()) := runW_on hs
      rw [hon]
      rcases szS_run l hl hx k (i + 1) _ (by omega) c1 c2 with d | ⟨m, d1, d2⟩
      · exact .inl d
      · refine .inr ⟨m, d1, fun j h4 h5 => ?_⟩
        rcases Nat.eq_or_lt_of_le h4 with rfl | h6
        · exact c3
        · exact d2 j h6 h5

theorem szS_small (l : List Tk) (hl : l.length ≤ 9223372036854775807) (hx : ∀ i, i < l.length → (l.getD i tk0).1.size ≤ 9223372036854775807 ∧ (l.getD i tk0).2.length ≤ 9223372036854775807) :
    r_laws_szTrackS R l 1048576 = true ∧ (decide (p_laws_szTrackS R l 1048576 < 0) = false → l.length ≤ 1048576 ∧ ∀ i, i < l.length → tkS (l.getD i tk0)) := by
  unfold r_laws_szTrackS p_laws_szTrackS
  rw [wrap_small (i := 1048576 - (l.length : Int)) (by omega) (by omega)]
  by_cases c : (1048576 : Int) - (l.length : Int) < 0
  · rw [dt c]; exact ⟨rfl, fun h => by cases h⟩
  · rw [df c]
    have hc : c0_laws_szTrackS R l 1048576 = W_laws_szTrackS_0 R (l, 1048576 - (l.length : Int), ((0 : Nat) : Int), 0, ()) := by
      unfold c0_laws_szTrackS
      rw [wrap_small (i := 1048576 - (l.length : Int)) (by omega) (by omega)]; rfl
    rcases szS_run l (by omega) hx l.length 0 (1048576 - (l.length : Int)) (by omega) (by omega) (by omega) with d | ⟨m, d1, d2⟩
    · rw [hc, d]; exact ⟨rfl, fun h => by cases h⟩
    · rw [hc, d1]; exact ⟨rfl, fun _ => ⟨by omega, fun i hi => d2 i (Nat.zero_le _) hi⟩⟩

theorem copyT_step (l : List Tk) (i : Nat) (h : i < l.length) : (l.take i ++ List.replicate (l.length - i) tk0).set i (l.getD i tk0) = l.take (i + 1) ++ List.replicate (l.length - (i + 1)) tk0 := by
  have e : l.length - i = (l.length - (i + 1)) + 1 := by omega
  rw [List.set_append_right _ _ (by rw [List.length_take]; omega), List.length_take, Nat.min_eq_left (by omega), Nat.sub_self, e, List.replicate_succ, List.set_cons_zero, List.take_succ_eq_append_getElem h, getD_lt h, List.append_assoc]
  rfl
theorem toTrackS_ok (l : List Tk) (hl : l.length ≤ 1048576) (hx : ∀ i, i < l.length → tkS (l.getD i tk0)) : p_laws_toTrackS R l = l ∧ r_laws_toTrackS R l = true := by
  have hr := runW_count (n := l.length) (step := fun x => st_laws_toTrackS_0 R x.1 x.2.1 x.2.2.1) (mk := fun i => (l, l.take i ++ List.replicate (l.length - i) tk0, (i : Int), (), ())) (o := (l, (), ()))
    (fun i hi => by
      simp only [st_laws_toTrackS_0]
      have a1 : decide ((i : Int) < (l.length : Int)) = true := dt (by omega)
      have a2 : decide (0 ≤ (i : Int)) = true := dt (by omega)
      have hg : l.getD ((i : Int)).toNat ((ByteArray.mk #[]), ([] : List (Nat × Nat))) = l.getD i tk0 := rfl
      have a3 : (l.take i ++ List.replicate (l.length - i) tk0).length = l.length := by rw [List.length_append, List.length_take, List.length_replicate]; omega
      obtain ⟨t1, t2⟩ := toTrack_ok (l.getD i tk0).1 (l.getD i tk0).2 (hx i hi).2
      have a4 : Nat.blt i l.length = true := ble_of hi
      have a5 : ((i : Int)).toNat = i := rfl
      rw [wrap_succ (by omega), a1, a2, hg, t1, t2, a5, a3, a1, a4, copyT_step l i hi]
      have a6 : (l.take (i + 1) ++ List.replicate (l.length - (i + 1)) tk0).length = l.length := by rw [List.length_append, List.length_take, List.length_replicate]; omega
      rw [a6, Nat.beq_refl]; rfl)
    (by
      simp only [st_laws_toTrackS_0]
      rw [df (show ¬ (l.length : Int) < (l.length : Int) by omega), Nat.sub_self, List.take_length]
      simp only [List.replicate_zero, List.append_nil, Nat.beq_refl]
      rfl)
  have hc : c0_laws_toTrackS R l = some (l, (), ()) := by
    rw [← hr]
    unfold c0_laws_toTrackS
    rfl
  unfold p_laws_toTrackS r_laws_toTrackS
  rw [hc, dt (show (l.length : Int) ≤ (l.length : Int) by omega), dt (show (l.length : Int) ≤ Int.ofNat 1073741824 by show (l.length : Int) ≤ 1073741824; omega)]
  simp only [Option.getD_some, Option.isSome_some, Nat.beq_refl]
  exact ⟨trivial, rfl⟩

theorem eqTrackS_refl (l : List Tk) (hl : l.length ≤ 1048576) (hx : ∀ i, i < l.length → tkS (l.getD i tk0)) : p_laws_eqTrackS R l l = true ∧ r_laws_eqTrackS R l l = true := by
  have hr := runW_count (n := l.length) (step := fun x => st_laws_eqTrackS_0 R x.1 x.2.1 x.2.2.1 x.2.2.2.1) (mk := fun i => (l, l, (i : Int), false, ())) (o := .inr (false, ()))
    (fun i hi => by
      simp only [st_laws_eqTrackS_0]
      have a1 : decide ((i : Int) < (l.length : Int)) = true := dt (by omega)
      have a2 : decide (0 ≤ (i : Int)) = true := dt (by omega)
      have hg : l.getD ((i : Int)).toNat ((ByteArray.mk #[]), ([] : List (Nat × Nat))) = l.getD i tk0 := rfl
      obtain ⟨q1, q2⟩ := eqTrack_refl (l.getD i tk0).1 (l.getD i tk0).2 (hx i hi).2
      rw [wrap_succ (by omega), a1, a2, hg, q1, q2]; rfl)
    (by
      simp only [st_laws_eqTrackS_0]
      rw [df (show ¬ (l.length : Int) < (l.length : Int) by omega)]; rfl)
  have hc : c0_laws_eqTrackS R l l = some (.inr (false, ())) := by rw [← hr]; rfl
  have hb : ((l.length : Int) != (l.length : Int)) = false := by simp
  unfold p_laws_eqTrackS r_laws_eqTrackS
  rw [hc, hb]
  exact ⟨rfl, rfl⟩

theorem areAllT_run (l : List Tk) (hl : l.length ≤ 1048576) (hx : ∀ i, i < l.length → tkS (l.getD i tk0)) :
    ∃ t : Bool, p_impl_areAll_impl_Track R l = t ∧ r_impl_areAll_impl_Track R l = true ∧ (t = true ↔ ∀ i, i < l.length → p_impl_ValidTrack R (l.getD i tk0).1 (l.getD i tk0).2 = true) := by
  have hr := runW_scan (n := l.length) (step := fun x => st_slices_IndexFunc_impl_Track_impl_Track_k_0 R x.1 x.2.2.1 x.2.2.2.1 x.2.2.2.2.1) (test := fun i => p_impl_ValidTrack R (l.getD i tk0).1 (l.getD i tk0).2) (mk := fun i => (l, ((), ()), (l.length : Int), (i : Int), 0, ())) (oT := .inr (0, ())) (oF := fun i => .inl ((i : Int), ()))
    (fun i hi => by
      simp only [st_slices_IndexFunc_impl_Track_impl_Track_k_0]
      rw [wrap_succ (by omega)]
      have a1 : decide ((i : Int) < (l.length : Int)) = true := dt (by omega)
      have a2 : decide (0 ≤ (i : Int)) = true := dt (by omega)
      have hg : l.getD ((i : Int)).toNat ((ByteArray.mk #[]), ([] : List (Nat × Nat))) = l.getD i tk0 := rfl
      rw [a1, a2, hg]
      unfold r_impl_areAll_impl_Track_1 p_impl_areAll_impl_Track_1
      rw [(validTrack_eq _ _ (hx i hi).1 (hx i hi).2).2.1]
      cases p_impl_ValidTrack R (l.getD i tk0).1 (l.getD i tk0).2 <;> rfl)
    (by
      simp only [st_slices_IndexFunc_impl_Track_impl_Track_k_0]
      rw [df (show ¬ (l.length : Int) < (l.length : Int) by omega)]; rfl)
  have hc : c0_slices_IndexFunc_impl_Track_impl_Track_k R l = runW (fun x => st_slices_IndexFunc_impl_Track_impl_Track_k_0 R x.1 x.2.2.1 x.2.2.2.1 x.2.2.2.2.1) (l, ((), ()), (l.length : Int), ((0 : Nat) : Int), 0, ()) := rfl
  unfold p_impl_areAll_impl_Track r_impl_areAll_impl_Track p_slices_ContainsFunc_impl_Track_impl_Track_k r_slices_ContainsFunc_impl_Track_impl_Track_k c0_slices_ContainsFunc_impl_Track_impl_Track_k p_slices_IndexFunc_impl_Track_impl_Track_k r_slices_IndexFunc_impl_Track_impl_Track_k
  rcases hr with ⟨hall, hr⟩ | ⟨j, hj, ht, hr⟩
  · exact ⟨true, by rw [hc, hr]; rfl, by rw [hc, hr]; rfl, fun _ => hall, fun _ => rfl⟩
  · refine ⟨false, ?_, by rw [hc, hr]; rfl, (fun h => nomatch h), fun h => by rw [h j hj] at ht; cases ht⟩
    rw [hc, hr]
    show (!decide ((j : Int) ≥ 0)) = false
    rw [dt (show (j : Int) ≥ 0 by omega)]; rfl

noncomputable def accT (l : List Tk) : Nat → ByteArray
  | 0 => ByteArray.mk #[]
  | i + 1 => accT l i ++ (bif p_spec_l07Track R (l.getD i tk0).1 (l.getD i tk0).2 then p_spec_l07Store R (l.getD i tk0).1 (l.getD i tk0).2 else ByteArray.mk #[])

theorem one_track (t : Tk) (h : tkS t) (hv : p_spec_l07Track R t.1 t.2 = true) : p_impl_trackBytes R t.1 t.2 = p_spec_l07Store R t.1 t.2 ∧ r_impl_trackBytes R t.1 t.2 = true ∧ r_spec_l07Store R t.1 t.2 = true ∧ (p_spec_l07Store R t.1 t.2).size ≤ 2097152 := by
  have hp : p_spec_l07Packed R t.2 = true := by
    unfold p_spec_l07Track at hv
    cases hn : p_spec_l07Name R t.1
    · rw [hn] at hv; cases hv
    · rw [hn] at hv; exact hv
  obtain ⟨q1, q2⟩ := packed_in h.2 hp
  obtain ⟨i1, i2⟩ := implTrack h.1 q2 q1
  obtain ⟨j1, j2⟩ := specTrack h.1 q2 q1
  refine ⟨by rw [i1, j1], i2, j2, ?_⟩
  rw [j1, ByteArray.size_append, headB_size]
  have hcs : (checkB (headB t.1 (p_bytes (pk t.2 t.2.length)))).size = 2 := by unfold checkB; rw [bytes_size]; rfl
  have := (pack_P q2 q1).2.2.2.2
  have := h.1
  omega
theorem accT_size (l : List Tk) (hx : ∀ i, i < l.length → tkS (l.getD i tk0)) : ∀ i, i ≤ l.length → (accT l i).size ≤ i * 2097152
  | 0, _ => Nat.zero_le _
  | i + 1, hi => by
    have h1 := accT_size l hx i (by omega)
    show (accT l i ++ _).size ≤ _
    rw [ByteArray.size_append]
    cases hv : p_spec_l07Track R (l.getD i tk0).1 (l.getD i tk0).2
    · rw [cond_false]
      have : (ByteArray.mk #[]).size = 0 := rfl
      omega
    · rw [cond_true]
      have := (one_track _ (hx i (by omega)) hv).2.2.2
      omega

theorem rTrack (t : Tk) (h : tkS t) : r_spec_l07Track R t.1 t.2 = true := by
  have := (validTrack_eq t.1 t.2 h.1 h.2).2.2
  unfold r_spec_ValidTrack at this
  rw [Bool.and_true] at this; exact this

theorem storeTracks_eq (l : List Tk) (hl : l.length ≤ 1048576) (hx : ∀ i, i < l.length → tkS (l.getD i tk0)) : p_impl_StoreTracks R l = p_spec_StoreTracks R l ∧ r_impl_StoreTracks R l = true ∧ r_spec_StoreTracks R l = true := by
  unfold p_impl_StoreTracks p_spec_StoreTracks r_impl_StoreTracks r_spec_StoreTracks
  by_cases c : (l.length : Int) > 8
  · rw [dt c]; exact ⟨rfl, rfl, rfl⟩
  rw [df c]
  have hl8 : l.length ≤ 8 := by omega
  have hsz : ∀ i, i ≤ l.length → (accT l i).size ≤ 16777216 := fun i hi => by
    have := accT_size l hx i hi
    have : i * 2097152 ≤ 8 * 2097152 := Nat.mul_le_mul_right _ (by omega)
    omega
  have hr := runW_scan (n := l.length) (step := fun x => st_spec_StoreTracks_0 R x.1 x.2.1 x.2.2.1 x.2.2.2.1 x.2.2.2.2.1 x.2.2.2.2.2.1) (test := fun i => p_spec_l07Track R (l.getD i tk0).1 (l.getD i tk0).2) (mk := fun i => (l, accT l i, (l.length : Int), (i : Int), ByteArray.mk #[], false, ())) (oT := .inr (accT l l.length, ByteArray.mk #[], false, ())) (oF := fun _ => .inl (ByteArray.mk #[], false, ()))
    (fun i hi => by
      simp only [st_spec_StoreTracks_0]
      have a1 : decide ((i : Int) < (l.length : Int)) = true := dt (by omega)
      have a2 : decide (0 ≤ (i : Int)) = true := dt (by omega)
      have hg : l.getD ((i : Int)).toNat ((ByteArray.mk #[]), ([] : List (Nat × Nat))) = l.getD i tk0 := rfl
      rw [wrap_succ (by omega), a1, a2, hg, rTrack _ (hx i hi)]
      cases hv : p_spec_l07Track R (l.getD i tk0).1 (l.getD i tk0).2
      · rfl
      · obtain ⟨o1, o2, o3, o4⟩ := one_track _ (hx i hi) hv
        have e : accT l (i + 1) = accT l i ++ p_spec_l07Store R (l.getD i tk0).1 (l.getD i tk0).2 := by
          show accT l i ++ _ = _
          rw [hv, cond_true]
        have h5 : ((accT l i).size + (p_spec_l07Store R (l.getD i tk0).1 (l.getD i tk0).2).size).ble 4611686018427387904 = true := ble_of (by have := hsz i (by omega); omega)
        rw [e, o3, h5]; rfl)
    (by
      simp only [st_spec_StoreTracks_0]
      rw [df (show ¬ (l.length : Int) < (l.length : Int) by omega)]; rfl)
  have hc : c0_spec_StoreTracks R l = runW (fun x => st_spec_StoreTracks_0 R x.1 x.2.1 x.2.2.1 x.2.2.2.1 x.2.2.2.2.1 x.2.2.2.2.2.1) (l, accT l 0, (l.length : Int), ((0 : Nat) : Int), ByteArray.mk #[], false, ()) := rfl
  obtain ⟨t, ha, hra, ht⟩ := areAllT_run l hl hx
  have hiff : ∀ i, i < l.length → p_impl_ValidTrack R (l.getD i tk0).1 (l.getD i tk0).2 = p_spec_l07Track R (l.getD i tk0).1 (l.getD i tk0).2 := fun i hi =>
    (validTrack_eq _ _ (hx i hi).1 (hx i hi).2).1
  rw [ha, hra]
  rcases hr with ⟨hall, hr⟩ | ⟨j, hj, hf, hr⟩
  · have htt : t = true := ht.2 fun i hi => by rw [hiff i hi]; exact hall i hi
    subst htt
    have hi := runW_count (n := l.length) (step := fun x => st_impl_StoreTracks_0 R x.1 x.2.1 x.2.2.1 x.2.2.2.1 x.2.2.2.2.1 x.2.2.2.2.2.1) (mk := fun i => (accT l i, l, (l.length : Int), (i : Int), ByteArray.mk #[], false, ())) (o := (accT l l.length, ByteArray.mk #[], false, ()))
      (fun i hi => by
        simp only [st_impl_StoreTracks_0]
        have a1 : decide ((i : Int) < (l.length : Int)) = true := dt (by omega)
        have a2 : decide (0 ≤ (i : Int)) = true := dt (by omega)
        have hg : l.getD ((i : Int)).toNat ((ByteArray.mk #[]), ([] : List (Nat × Nat))) = l.getD i tk0 := rfl
        have hv := hall i hi
        obtain ⟨o1, o2, o3, o4⟩ := one_track _ (hx i hi) hv
        have e : accT l (i + 1) = accT l i ++ p_spec_l07Store R (l.getD i tk0).1 (l.getD i tk0).2 := by
          show accT l i ++ _ = _
          rw [hv, cond_true]
        have h5 : ((accT l i).size + (p_spec_l07Store R (l.getD i tk0).1 (l.getD i tk0).2).size).ble 4611686018427387904 = true := ble_of (by have := hsz i (by omega); omega)
        rw [wrap_succ (by omega), a1, a2, hg, o1, o2, e, h5]; rfl)
      (by
        simp only [st_impl_StoreTracks_0]
        rw [df (show ¬ (l.length : Int) < (l.length : Int) by omega)]; rfl)
    have hci : c0_impl_StoreTracks R l = some (accT l l.length, ByteArray.mk #[], false, ()) := by rw [← hi]; rfl
    rw [hc, hr, hci]
    exact ⟨rfl, rfl, rfl⟩
  · have htt : t = false := by
      cases t
      · rfl
      · have := ht.1 rfl j hj
        rw [hiff j hj, hf] at this; cases this
    subst htt
    rw [hc, hr]
    exact ⟨rfl, rfl, rfl⟩

theorem law_StoreTracks (l : List Tk) (hl : l.length ≤ 9223372036854775807) (hx : ∀ i, i < l.length → (l.getD i tk0).1.size ≤ 9223372036854775807 ∧ (l.getD i tk0).2.length ≤ 9223372036854775807) : r_laws_FnExactStoreTracks R l = true ∧ p_laws_FnExactStoreTracks R l = true := by
  obtain ⟨s1, s2⟩ := szS_small l hl hx
  unfold r_laws_FnExactStoreTracks p_laws_FnExactStoreTracks c2_laws_FnExactStoreTracks c3_laws_FnExactStoreTracks c0_laws_FnExactStoreTracks
  rw [s1]
  cases hs : decide (p_laws_szTrackS R l 1048576 < 0)
  · obtain ⟨k1, k2⟩ := s2 hs
    obtain ⟨t1, t2⟩ := toTrackS_ok l k1 k2
    have hc : c1_laws_FnExactStoreTracks R l = l := t1
    obtain ⟨e1, e2, e3⟩ := storeTracks_eq l k1 k2
    obtain ⟨q1, q2⟩ := eqTrackS_refl l k1 k2
    have hb : ∀ b : Bool, (b != b) = false := fun b => by cases b <;> rfl
    simp only [hc, t2, e1, e2, e3, q1, q2, hb, toList_beq]
    exact ⟨rfl, rfl⟩
  · exact ⟨rfl, rfl⟩
end Go.Dv
