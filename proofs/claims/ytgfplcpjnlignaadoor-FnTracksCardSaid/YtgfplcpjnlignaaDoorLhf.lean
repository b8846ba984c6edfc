/- The plain law of FnExactStoreTracks. -/
import Derived.Test.YtgfplcpjnlignaaDoorLhe
import Derived.Test.YtgfplcpjnlignaaDoorWkl

set_option linter.unusedSimpArgs false
namespace Go.Dv
open Go.Cv

abbrev Tk := ByteArray × List (Nat × Nat)
def tk0 : Tk := (ByteArray.mk #[], [])
def tkS (t : Tk) : Prop := t.1.size ≤ 1048576 ∧ t.2.length ≤ 1048576

theorem areAllT_run (l : List Tk) (hl : l.length ≤ 1048576) (hx : ∀ i, i < l.length → tkS (l.getD i tk0)) :
    ∃ t : Bool, p_impl_areAll_impl_Track R l = t ∧ r_impl_areAll_impl_Track R l = true ∧ (t = true ↔ ∀ i, i < l.length → p_impl_ValidTrack R (l.getD i tk0).1 (l.getD i tk0).2 = true) := by
  have hr := runW_scan (n := l.length) (step := fun x => st_slices_IndexFunc_impl_Track_impl_Track_k_0 R x.1 x.2.2.1 x.2.2.2.1 x.2.2.2.2.1) (test := fun i => p_impl_ValidTrack R (l.getD i tk0).1 (l.getD i tk0).2) (mk := fun i => (l, ((), ()), (l.length : Int), (i : Int), 0, ())) (oT := .inr (0, ())) (oF := fun i => .inl ((i : Int), ()))
    (fun i hi => by
      simp only [st_slices_IndexFunc_impl_Track_impl_Track_k_0]
      rw [wrap_succ (by omega)]
      have a1 : decide ((i : Int) < (l.length : Int)) = true := dt (by omega)
      have a2 : decide (0 ≤ (i : Int)) = true := dt (by omega)
      have hg : l.getD ((i : Int)).toNat ((ByteArray.mk #[]), ([] : List (Nat × Nat))) = l.getD i tk0 := rfl
      rw [a1, a2, hg]
      unfold r_impl_areAll_impl_Track_1 p_impl_areAll_impl_Track_1
      rw [(validTrack_eq _ _ (hx i hi).1 (hx i hi).2).2.1]
      cases p_impl_ValidTrack R (l.getD i tk0).1 (l.getD i tk0).2 <;> rfl)
    (by
      simp only [st_slices_IndexFunc_impl_Track_impl_Track_k_0]
      rw [df (show ¬ (l.length : Int) < (l.length : Int) by omega)]; rfl)
  have hc : c0_slices_IndexFunc_impl_Track_impl_Track_k R l = runW (fun x => st_slices_IndexFunc_impl_Track_impl_Track_k_0 R x.1 x.2.2.1 x.2.2.2.1 x.2.2.2.2.1) (l, ((), ()), (l.length : Int), ((0 : Nat) : Int), 0, ()) := rfl
  unfold p_impl_areAll_impl_Track r_impl_areAll_impl_Track p_slices_ContainsFunc_impl_Track_impl_Track_k r_slices_ContainsFunc_impl_Track_impl_Track_k c0_slices_ContainsFunc_impl_Track_impl_Track_k p_slices_IndexFunc_impl_Track_impl_Track_k r_slices_IndexFunc_impl_Track_impl_Track_k
  rcases hr with ⟨hall, hr⟩ | ⟨j, hj, ht, hr⟩
  · exact ⟨true, by rw [hc, hr]; rfl, by rw [hc, hr]; rfl, fun _ => hall, fun _ => rfl⟩
  · refine ⟨false, ?_, by rw [hc, hr]; rfl, (fun h => nomatch h), fun h => by rw [h j hj] at ht; cases ht⟩
    rw [hc, hr]
    show (!decide ((j : Int) ≥ 0)) = false
    rw [dt (show (j : Int) ≥ 0 by omega)]; rfl

noncomputable def accT (l : List Tk) : Nat → ByteArray
  | 0 => ByteArray.mk #[]
  | i + 1 => accT l i ++ (bif p_spec_l07Track R (l.getD i tk0).1 (l.getD i tk0).2 then p_spec_l07Store R (l.getD i tk0).1 (l.getD i tk0).2 else ByteArray.mk #[])

theorem one_track (t : Tk) (h : tkS t) (hv : p_spec_l07Track R t.1 t.2 = true) : p_impl_trackBytes R t.1 t.2 = p_spec_l07Store R t.1 t.2 ∧ r_impl_trackBytes R t.1 t.2 = true ∧ r_spec_l07Store R t.1 t.2 = true ∧ (p_spec_l07Store R t.1 t.2).size ≤ 2097152 := by
  have hp : p_spec_l07Packed R t.2 = true := by
    unfold p_spec_l07Track at hv
    cases hn : p_spec_l07Name R t.1
    · rw [hn] at hv; cases hv
    · rw [hn] at hv; exact hv
  obtain ⟨q1, q2⟩ := packed_in h.2 hp
  obtain ⟨i1, i2⟩ := implTrack h.1 q2 q1
  obtain ⟨j1, j2⟩ := specTrack h.1 q2 q1
  refine ⟨by rw [i1, j1], i2, j2, ?_⟩
  rw [j1, ByteArray.size_append, headB_size]
  have hcs : (checkB (headB t.1 (p_bytes (pk t.2 t.2.length)))).size = 2 := by unfold checkB; rw [bytes_size]; rfl
  have := (pack_P q2 q1).2.2.2.2
  have := h.1
  omega
theorem accT_size (l : List Tk) (hx : ∀ i, i < l.length → tkS (l.getD i tk0)) : ∀ i, i ≤ l.length → (accT l i).size ≤ i * 2097152
  | 0, _ => Nat.zero_le _
  | i + 1, hi => by
    have h1 := accT_size l hx i (by omega)
    show (accT l i ++ _).size ≤ _
    rw [ByteArray.size_append]
    cases hv : p_spec_l07Track R (l.getD i tk0).1 (l.getD i tk0).2
    · rw [cond_false]
      have : (ByteArray.mk #[]).size = 0 := rfl
      omega
    · rw [cond_true]
      have := (one_track _ (hx i (by omega)) hv).2.2.2
      omega

theorem rTrack (t : Tk) (h : tkS t) : r_spec_l07Track R t.1 t.2 = true := by
  have := (validTrack_eq t.1 t.2 h.1 h.2).2.2
  unfold r_spec_ValidTrack at this
  rw [Bool.and_true] at this; exact this

theorem storeTracks_eq (l : List Tk) (hl : l.length ≤ 1048576) (hx : ∀ i, i < l.length → tkS (l.getD i tk0)) : p_impl_StoreTracks R l = p_spec_StoreTracks R l ∧ r_impl_StoreTracks R l = true ∧ r_spec_StoreTracks R l = true := by
  unfold p_impl_StoreTracks p_spec_StoreTracks r_impl_StoreTracks r_spec_StoreTracks
  by_cases c : (l.length : Int) > 8
  · rw [dt c]; exact ⟨rfl, rfl, rfl⟩
  rw [df c]
  have hl8 : l.length ≤ 8 := by omega
  have hsz : ∀ i, i ≤ l.length → (accT l i).size ≤ 16777216 := fun i hi => by
    have := accT_size l hx i hi
    have : i * 2097152 ≤ 8 * 2097152 := Nat.mul_le_mul_right _ (by omega)
    omega
  have hr := runW_scan (n := l.length) (step := fun x => st_spec_StoreTracks_0 R x.1 x.2.1 x.2.2.1 x.2.2.2.1 x.2.2.2.2.1 x.2.2.2.2.2.1) (test := fun i => p_spec_l07Track R (l.getD i tk0).1 (l.getD i tk0).2) (mk := fun i => (l, accT l i, (l.length : Int), (i : Int), ByteArray.mk #[], false, ())) (oT := .inr (accT l l.length, ByteArray.mk #[], false, ())) (oF := fun _ => .inl (ByteArray.mk #[], false, ()))
    (fun i hi => by
      simp only [st_spec_StoreTracks_0]
      have a1 : decide ((i : Int) < (l.length : Int)) = true := dt (by omega)
      have a2 : decide (0 ≤ (i : Int)) = true := dt (by omega)
      have hg : l.getD ((i : Int)).toNat ((ByteArray.mk #[]), ([] : List (Nat × Nat))) = l.getD i tk0 := rfl
      rw [wrap_succ (by omega), a1, a2, hg, rTrack _ (hx i hi)]
      cases hv : p_spec_l07Track R (l.getD i tk0).1 (l.getD i tk0).2
      · rfl
      · obtain ⟨o1, o2, o3, o4⟩ := one_track _ (hx i hi) hv
        have e : accT l (i + 1) = accT l i ++ p_spec_l07Store R (l.getD i tk0).1 (l.getD i tk0).2 := by
          show accT l i ++ _ = _
          rw [hv, cond_true]
        have h5 : ((accT l i).size + (p_spec_l07Store R (l.getD i tk0).1 (l.getD i tk0).2).size).ble 4611686018427387904 = true := ble_of (by have := hsz i (by omega); omega)
        rw [e, o3, h5]; rfl)
    (by
      simp only [st_spec_StoreTracks_0]
      rw [df (show ¬ (l.length : Int) < (l.length : Int) by omega)]; rfl)
  have hc : c0_spec_StoreTracks R l = runW (fun x => st_spec_StoreTracks_0 R x.1 x.2.1 x.2.2.1 x.2.2.2.1 x.2.2.2.2.1 x.2.2.2.2.2.1) (l, accT l 0, (l.length : Int), ((0 : Nat) : Int), ByteArray.mk #[], false, ()) := rfl
  obtain ⟨t, ha, hra, ht⟩ := areAllT_run l hl hx
  have hiff : ∀ i, i < l.length → p_impl_ValidTrack R (l.getD i tk0).1 (l.getD i tk0).2 = p_spec_l07Track R (l.getD i tk0).1 (l.getD i tk0).2 := fun i hi =>
    (validTrack_eq _ _ (hx i hi).1 (hx i hi).2).1
  rw [ha, hra]
  rcases hr with ⟨hall, hr⟩ | ⟨j, hj, hf, hr⟩
  · have htt : t = true := ht.2 fun i hi => by rw [hiff i hi]; exact hall i hi
    subst htt
    have hi := runW_count (n := l.length) (step := fun x => st_impl_StoreTracks_0 R x.1 x.2.1 x.2.2.1 x.2.2.2.1 x.2.2.2.2.1 x.2.2.2.2.2.1) (mk := fun i => (accT l i, l, (l.length : Int), (i : Int), ByteArray.mk #[], false, ())) (o := (accT l l.length, ByteArray.mk #[], false, ()))
      (fun i hi => by
        simp only [st_impl_StoreTracks_0]
        have a1 : decide ((i : Int) < (l.length : Int)) = true := dt (by omega)
        have a2 : decide (0 ≤ (i : Int)) = true := dt (by omega)
        have hg : l.getD ((i : Int)).toNat ((ByteArray.mk #[]), ([] : List (Nat × Nat))) = l.getD i tk0 := rfl
        have hv := hall i hi
        obtain ⟨o1, o2, o3, o4⟩ := one_track _ (hx i hi) hv
        have e : accT l (i + 1) = accT l i ++ p_spec_l07Store R (l.getD i tk0).1 (l.getD i tk0).2 := by
          show accT l i ++ _ = _
          rw [hv, cond_true]
        have h5 : ((accT l i).size + (p_spec_l07Store R (l.getD i tk0).1 (l.getD i tk0).2).size).ble 4611686018427387904 = true := ble_of (by have := hsz i (by omega); omega)
        rw [wrap_succ (by omega), a1, a2, hg, o1, o2, e, h5]; rfl)
      (by
        simp only [st_impl_StoreTracks_0]
        rw [df (show ¬ (l.length : Int) < (l.length : Int) by omega)]; rfl)
    have hci : c0_impl_StoreTracks R l = some (accT l l.length, ByteArray.mk #[], false, ()) := by rw [← hi]; rfl
    rw [hc, hr, hci]
    exact ⟨rfl, rfl, rfl⟩
  · have htt : t = false := by
      cases t
      · rfl
      · have := ht.1 rfl j hj
        rw [hiff j hj, hf] at this; cases this
    subst htt
    rw [hc, hr]
    exact ⟨rfl, rfl, rfl⟩

end Go.Dv
