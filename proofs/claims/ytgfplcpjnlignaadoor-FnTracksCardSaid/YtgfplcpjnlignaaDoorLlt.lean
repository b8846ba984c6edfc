/- Tracks stored, loaded and compared. -/
import Derived.Test.YtgfplcpjnlignaaDoorLls
import Derived.Test.YtgfplcpjnlignaaDoorWlr

set_option linter.unusedSimpArgs false
set_option linter.unusedVariables false
namespace Go.Dv
open Go.Cv

theorem bytes_beq (s : ByteArray) : (s.toList == s.toList) = true := by simp

theorem eqPl_refl (l : List (Nat × Nat)) (hl : l.length ≤ 1048576) : p_slices_EqualFunc_impl_Place_impl_Place_impl_Place_impl_Place_k R l l = true ∧ r_slices_EqualFunc_impl_Place_impl_Place_impl_Place_impl_Place_k R l l = true := by
  have hi := runW_count (n := l.length) (step := fun x => st_slices_EqualFunc_impl_Place_impl_Place_impl_Place_impl_Place_k_0 R x.1 x.2.2.1 x.2.2.2.1 x.2.2.2.2.1 x.2.2.2.2.2.1) (mk := fun i => (l, (), l, (l.length : Int), (i : Int), false, ())) (o := .inr (false, ()))
    (fun i hi => by
      simp only [st_slices_EqualFunc_impl_Place_impl_Place_impl_Place_impl_Place_k_0]
      have a1 : decide ((i : Int) < (l.length : Int)) = true := dt (by omega)
      have a2 : decide (0 ≤ (i : Int)) = true := dt (by omega)
      rw [wrap_succ (by omega), a1, a2, (samePlace_ok _ _ _ _).1, samePlace_refl]; rfl)
    (by
      simp only [st_slices_EqualFunc_impl_Place_impl_Place_impl_Place_impl_Place_k_0]
      rw [df (show ¬ (l.length : Int) < (l.length : Int) by omega)]; rfl)
  have hc : c0_slices_EqualFunc_impl_Place_impl_Place_impl_Place_impl_Place_k R l l = some (.inr (false, ())) := by rw [← hi]; rfl
  unfold p_slices_EqualFunc_impl_Place_impl_Place_impl_Place_impl_Place_k r_slices_EqualFunc_impl_Place_impl_Place_impl_Place_impl_Place_k
  rw [hc]
  have hn : ((l.length : Int) != (l.length : Int)) = false := by simp
  rw [hn]
  exact ⟨rfl, rfl⟩

theorem same1_refl (t : ByteArray × List (Nat × Nat)) (hl : t.2.length ≤ 1048576) : p_impl_SameTracks_1 R t.1 t.2 t.1 t.2 = true ∧ r_impl_SameTracks_1 R t.1 t.2 t.1 t.2 = true := by
  unfold p_impl_SameTracks_1 r_impl_SameTracks_1
  rw [bytes_beq, (eqPl_refl t.2 hl).1, (eqPl_refl t.2 hl).2]; exact ⟨rfl, rfl⟩

theorem sameT_refl (l : List (ByteArray × List (Nat × Nat))) (hl : l.length ≤ 1048576) (hx : ∀ t ∈ l, t.2.length ≤ 1048576) : p_impl_SameTracks R l l = true ∧ r_impl_SameTracks R l l = true := by
  have hi := runW_count (n := l.length) (step := fun x => st_slices_EqualFunc_impl_Track_impl_Track_impl_Track_impl_Track_k_0 R x.1 x.2.2.1 x.2.2.2.1 x.2.2.2.2.1 x.2.2.2.2.2.1) (mk := fun i => (l, (), l, (l.length : Int), (i : Int), false, ())) (o := .inr (false, ()))
    (fun i hi => by
      simp only [st_slices_EqualFunc_impl_Track_impl_Track_impl_Track_impl_Track_k_0]
      have a1 : decide ((i : Int) < (l.length : Int)) = true := dt (by omega)
      have a2 : decide (0 ≤ (i : Int)) = true := dt (by omega)
      have hm : l.getD i (ByteArray.mk #[], []) ∈ l := by rw [getD_lt hi]; exact List.getElem_mem hi
      obtain ⟨q1, q2⟩ := same1_refl _ (hx _ hm)
      have hg : l.getD ((i : Int)).toNat ((ByteArray.mk #[]), ([] : List (Nat × Nat))) = l.getD i (ByteArray.mk #[], []) := rfl
      rw [wrap_succ (by omega), a1, a2, hg, q1, q2]; rfl)
    (by
      simp only [st_slices_EqualFunc_impl_Track_impl_Track_impl_Track_impl_Track_k_0]
      rw [df (show ¬ (l.length : Int) < (l.length : Int) by omega)]; rfl)
  have hc : c0_slices_EqualFunc_impl_Track_impl_Track_impl_Track_impl_Track_k R l l = some (.inr (false, ())) := by rw [← hi]; rfl
  unfold p_impl_SameTracks r_impl_SameTracks p_slices_EqualFunc_impl_Track_impl_Track_impl_Track_impl_Track_k r_slices_EqualFunc_impl_Track_impl_Track_impl_Track_impl_Track_k
  rw [hc]
  have hn : ((l.length : Int) != (l.length : Int)) = false := by simp
  rw [hn]
  exact ⟨rfl, rfl⟩

theorem vt_r {t : ByteArray × List (Nat × Nat)} (h : Vt t) : r_impl_ValidTrack R t.1 t.2 = true ∧ r_impl_trackBytes R t.1 t.2 = true ∧ (tb t).size ≤ 100000 := by
  obtain ⟨g1, g2, g3, g4, g5⟩ := h
  refine ⟨(validTrack_eq _ _ (by omega) (by omega)).2.1, (implTrack (s := t.1) (by omega) (gps_steps g1) g3).2, ?_⟩
  have := (pack_P (gps_steps g1) g3).2.2.2.2
  rw [p_bytes_size] at this
  rw [tb_size ⟨g1, g2, g3, g4, g5⟩]; omega

theorem storeT {t : ByteArray × List (Nat × Nat)} (h : Vt t) : p_impl_StoreTrack R t.1 t.2 = (tb t, true) ∧ r_impl_StoreTrack R t.1 t.2 = true := by
  obtain ⟨v1, v2, _⟩ := vt_r h
  obtain ⟨g1, g2, g3, g4, g5⟩ := h
  unfold p_impl_StoreTrack r_impl_StoreTrack
  rw [v1, v2, g5]; exact ⟨rfl, rfl⟩

theorem loadT {t : ByteArray × List (Nat × Nat)} (h : Vt t) (hs : (tb t).size ≤ 250) : p_impl_LoadTrack R (tb t) = (t.1, t.2, true) ∧ r_impl_LoadTrack R (tb t) = true := by
  obtain ⟨g1, g2, g3, g4, g5⟩ := h
  have hr := (load_any (tb t) hs).1
  have hp := load_own g4 g1 g2 g3 g5 (tb t) hs (by show (tb t).data.toList.take (tb t).size = (tb t).data.toList; exact List.take_length)
  have e0 : c0_impl_LoadTrack R (tb t) = (t.1, t.2, ((tb t).size : Int), true) := hp
  unfold p_impl_LoadTrack r_impl_LoadTrack
  rw [e0, hr]
  have hn : ((((tb t).size : Int)) != ((tb t).size : Int)) = false := by simp
  simp only [hn, Nat.beq_refl]
  exact ⟨rfl, rfl⟩

theorem cat_append : ∀ (a b : List (ByteArray × List (Nat × Nat))), cat (a ++ b) = cat a ++ cat b
  | [], b => rfl
  | t :: r, b => by
    show (tb t).data.toList ++ cat (r ++ b) = ((tb t).data.toList ++ cat r) ++ cat b
    rw [cat_append r b, List.append_assoc]
theorem cat_take {l : List (ByteArray × List (Nat × Nat))} {i : Nat} (hi : i < l.length) : cat (l.take (i + 1)) = cat (l.take i) ++ (tb (l.getD i tk0)).data.toList := by
  rw [List.take_add_one, cat_append, List.getElem?_eq_getElem hi, getD_lt hi]
  show cat (l.take i) ++ ((tb l[i]).data.toList ++ []) = _
  rw [List.append_nil]

theorem storeTs (l : List (ByteArray × List (Nat × Nat))) (hl : l.length ≤ 8) (hx : ∀ t ∈ l, Vt t) : r_impl_StoreTracks R l = true ∧ ∃ b : ByteArray, p_impl_StoreTracks R l = (b, true) ∧ b.data.toList = cat l := by
  have hS : ∀ i, i < l.length → tkS (l.getD i tk0) ∧ Vt (l.getD i tk0) := fun i hi => by
    have hm : l.getD i tk0 ∈ l := by rw [getD_lt hi]; exact List.getElem_mem hi
    obtain ⟨g1, g2, g3, g4, g5⟩ := hx _ hm
    exact ⟨⟨by omega, by omega⟩, g1, g2, g3, g4, g5⟩
  have hr := (storeTracks_eq l (by omega) (fun i hi => (hS i hi).1)).2.1
  refine ⟨hr, ?_⟩
  obtain ⟨acc, hacc⟩ : ∃ acc : Nat → ByteArray, ∀ i, i ≤ l.length → (acc i).data.toList = cat (l.take i) ∧ acc i = ⟨⟨cat (l.take i)⟩⟩ := ⟨fun i => ⟨⟨cat (l.take i)⟩⟩, fun i _ => ⟨rfl, rfl⟩⟩
  have hsz : ∀ i, i ≤ l.length → (acc i).size ≤ i * 100000 := by
    intro i
    induction i with
    | zero => intro _; rw [(hacc 0 (Nat.zero_le _)).2]; exact Nat.le_refl 0
    | succ i ih =>
      intro hi
      have h1 := ih (by omega)
      have h2 := (vt_r (hS i hi).2).2.2
      have e1 : (acc (i + 1)).size = (cat (l.take (i + 1))).length := by rw [← (hacc (i + 1) hi).1]; rfl
      have e2 : (acc i).size = (cat (l.take i)).length := by rw [← (hacc i (by omega)).1]; rfl
      rw [e1, cat_take hi, List.length_append, ← e2, sz_list]; omega
  have hi := runW_count (n := l.length) (step := fun x => st_impl_StoreTracks_0 R x.1 x.2.1 x.2.2.1 x.2.2.2.1 x.2.2.2.2.1 x.2.2.2.2.2.1) (mk := fun i => (acc i, l, (l.length : Int), (i : Int), ByteArray.mk #[], false, ())) (o := (acc l.length, ByteArray.mk #[], false, ()))
    (fun i hi => by
      simp only [st_impl_StoreTracks_0]
      have a1 : decide ((i : Int) < (l.length : Int)) = true := dt (by omega)
      have a2 : decide (0 ≤ (i : Int)) = true := dt (by omega)
      have hg : l.getD ((i : Int)).toNat ((ByteArray.mk #[]), ([] : List (Nat × Nat))) = l.getD i tk0 := rfl
      obtain ⟨_, o2, o3⟩ := vt_r (hS i hi).2
      have o3 : (p_impl_trackBytes R (l.getD i tk0).1 (l.getD i tk0).2).size ≤ 100000 := o3
      have e : acc (i + 1) = acc i ++ p_impl_trackBytes R (l.getD i tk0).1 (l.getD i tk0).2 := by
        refine ba_ext ?_
        rw [ByteArray.data_append, Array.toList_append, (hacc (i + 1) hi).1, (hacc i (by omega)).1, cat_take hi]; rfl
      have h5 : ((acc i).size + (p_impl_trackBytes R (l.getD i tk0).1 (l.getD i tk0).2).size).ble 4611686018427387904 = true := ble_of (by
        have := hsz i (by omega)
        omega)
      rw [wrap_succ (by omega), a1, a2, hg, o2, e, h5]; rfl)
    (by
      simp only [st_impl_StoreTracks_0]
      rw [df (show ¬ (l.length : Int) < (l.length : Int) by omega)]; rfl)
  have h0 : acc 0 = ByteArray.mk #[] := (hacc 0 (Nat.zero_le _)).2
  have hc : c0_impl_StoreTracks R l = some (acc l.length, ByteArray.mk #[], false, ()) := by
    rw [← hi, h0]; rfl
  obtain ⟨t, ha, _, ht⟩ := areAllT_run l (by omega) (fun i hi => (hS i hi).1)
  have htt : t = true := ht.2 fun i hi => (hS i hi).2.2.2.2.2
  refine ⟨acc l.length, ?_, by rw [(hacc _ (Nat.le_refl _)).1, List.take_length]⟩
  unfold p_impl_StoreTracks
  rw [ha, htt, hc, df (show ¬ (l.length : Int) > 8 by omega)]; rfl
end Go.Dv
