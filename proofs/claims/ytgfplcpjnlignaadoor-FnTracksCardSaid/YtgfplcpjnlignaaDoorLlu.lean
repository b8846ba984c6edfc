/- Tracks are loaded as they were stored; of those that are cut or bent as bytes, a beginning is recovered. -/
import Derived.Test.YtgfplcpjnlignaaDoorLlt
import Derived.Test.YtgfplcpjnlignaaDoorZlj
import Derived.Test.YtgfplcpjnlignaaDoorWls

set_option linter.unusedSimpArgs false
set_option linter.unusedVariables false
namespace Go.Dv
open Go.Cv

theorem blt_ofT {a b : Nat} (h : a < b) : Nat.blt a b = true := by rw [Nat.blt_eq]; exact h
theorem rcv_end (s : ByteArray) (hs : s.size ≤ 250) : ∀ k, rcv k s s.size = []
  | 0 => rfl
  | k + 1 => by
    rw [rcv]
    refine if_neg fun h => ?_
    have hz : (p_sub s s.size s.size).size = 0 := by rw [sub_size s _ _ (Nat.le_refl _)]; omega
    obtain ⟨t, h1, _, _, h4⟩ := load_cases _ (by omega) h
    have := tb_size h1
    omega

/-- what is shorter than a track and like its beginning is not loaded -/
theorem rcv_cut {t : ByteArray × List (Nat × Nat)} (ht : Vt t) (htb : (tb t).size ≤ 250) (s : ByteArray) (hs : s.size ≤ 250) (a : Nat) (hlt : s.size < a + (tb t).size)
    (hp : s.data.toList.drop a = (tb t).data.toList.take (s.size - a)) : ∀ k, rcv k s a = []
  | 0 => rfl
  | k + 1 => by
    rw [rcv]
    refine if_neg fun h => ?_
    have hz : (p_sub s a s.size).size = s.size - a := sub_size s a s.size (Nat.le_refl _)
    obtain ⟨t', h1, _, h3, h4⟩ := load_cases _ (by omega) h
    have h9 := tb_size h1
    rw [sub_drop, hp, List.take_take] at h3
    obtain ⟨g1, g2, g3, g4, g5⟩ := h1
    obtain ⟨g1', g2', g3', g4', g5'⟩ := ht
    have h3 : (tb t).data.toList.take (tb t').size = (tb t').data.toList := by rw [← h3, Nat.min_eq_left (by omega)]
    have l1 := load_own g4 g1 g2 g3 g5 (tb t) htb h3
    have l2 := load_own g4' g1' g2' g3' g5' (tb t) htb (List.take_length)
    rw [l1] at l2
    have l3 : (((tb t').size : Nat) : Int) = ((tb t).size : Int) := congrArg (fun x : ByteArray × List (Nat × Nat) × Int × Bool => x.2.2.1) l2
    omega

/-- where the tracks end -/
noncomputable def ends (l : List (ByteArray × List (Nat × Nat))) (i : Nat) : List Int := (List.range (i + 1)).map fun j => (((cat (l.take j)).length : Nat) : Int)
theorem ends_len (l : List (ByteArray × List (Nat × Nat))) (i : Nat) : (ends l i).length = i + 1 := by simp [ends]
theorem ends_get (l : List (ByteArray × List (Nat × Nat))) {i j : Nat} (h : j ≤ i) : (ends l i).getD j 0 = (((cat (l.take j)).length : Nat) : Int) := by
  rw [getD_lt (by rw [ends_len]; omega)]
  simp [ends]
theorem ends_step (l : List (ByteArray × List (Nat × Nat))) (i : Nat) : ends l (i + 1) = ends l i ++ [(((cat (l.take (i + 1))).length : Nat) : Int)] := by
  unfold ends; rw [List.range_succ, List.map_append]; rfl
theorem cat_le {l : List (ByteArray × List (Nat × Nat))} (hx : ∀ t ∈ l, Dt4 t) : ∀ i, i ≤ l.length → (cat (l.take i)).length ≤ 40 * i
  | 0, _ => Nat.le_refl _
  | i + 1, h => by
    have := cat_le hx i (by omega)
    have hm : l.getD i tk0 ∈ l := by rw [getD_lt (by omega)]; exact List.getElem_mem (by omega)
    have := (hx _ hm).2.2
    rw [cat_take (by omega), List.length_append, sz_list]; omega

theorem trk_loop0 (l : List (ByteArray × List (Nat × Nat))) (hl : l.length ≤ 4) (hx : ∀ t ∈ l, Dt4 t) (m : List Int) :
    W_laws_FnTracks_0 R (l, [0], (l.length : Int), 0, m, false, ()) = some (.inr (m, l, ends l l.length, false, ())) := by
  have hi := runW_count (n := l.length) (step := fun x => st_laws_FnTracks_0 R x.1 x.2.1 x.2.2.1 x.2.2.2.1 x.2.2.2.2.1 x.2.2.2.2.2.1) (mk := fun i => (l, ends l i, (l.length : Int), (i : Int), m, false, ())) (o := .inr (m, l, ends l l.length, false, ()))
    (fun i hi => by
      show st_laws_FnTracks_0 R l (ends l i) (l.length : Int) (i : Int) m false = _
      have a1 : decide ((i : Int) < (l.length : Int)) = true := dt (by omega)
      have a2 : decide (0 ≤ (i : Int)) = true := dt (by omega)
      have hg : l.getD ((i : Int)).toNat ((ByteArray.mk #[]), ([] : List (Nat × Nat))) = l.getD i tk0 := rfl
      have hm : l.getD i tk0 ∈ l := by rw [getD_lt hi]; exact List.getElem_mem hi
      obtain ⟨hv, h9, h40⟩ := hx _ hm
      have s1 := storeT hv
      have l1 := loadT hv (by omega)
      have v1 := (vt_r hv).1
      have v2 : p_impl_ValidTrack R (l.getD i tk0).1 (l.getD i tk0).2 = true := hv.2.2.2.2
      have hk0 : k0_laws_FnTracks_0 R l (ends l i) (l.length : Int) (i : Int) m false = (tb (l.getD i tk0), true) := s1.1
      have hk1 : k1_laws_FnTracks_0 R l (ends l i) (l.length : Int) (i : Int) m false = ((l.getD i tk0).1, (l.getD i tk0).2, true) := by
        unfold k1_laws_FnTracks_0; rw [hk0]; exact l1.1
      have hsl : List.drop ((some (i : Int)).getD 0).toNat (List.take (((i + 1 : Nat) : Int)).toNat l) = [l.getD i tk0] := by
        show List.drop i (List.take (i + 1) l) = _
        rw [List.drop_take, show i + 1 - i = 1 by omega, List.take_one, getD_lt hi]
        simp [List.head?_drop, hi]
      have hsame := sameT_refl [l.getD i tk0] (by simp) (fun t ht => by rw [List.mem_singleton.1 ht]; have := hv.2.2.1; omega)
      have hwl : IntKind.i64.wrap (((ends l i).length : Int) - 1) = (i : Int) := by rw [ends_len, wrap_small (by omega) (by omega)]; omega
      have hc := cat_le hx i (by omega)
      have hgd : (ends l i).getD ((i : Int)).toNat 0 = (((cat (l.take i)).length : Nat) : Int) := ends_get l (Nat.le_refl i)
      have hw2 : IntKind.i64.wrap ((((cat (l.take i)).length : Nat) : Int) + ((tb (l.getD i tk0)).size : Int)) = (((cat (l.take (i + 1))).length : Nat) : Int) := by
        rw [wrap_small (by omega) (by omega), cat_take hi, List.length_append, sz_list]; omega
      have hel := ends_len l i
      unfold st_laws_FnTracks_0
      rw [hk1, hk0, wrap_succ (by omega), hg, hsl, hwl, hgd]
      simp only
      rw [hw2, s1.2, l1.2, v1, v2, hsame.1, hsame.2, a1, a2]
      rw [dt (show 0 ≤ (some (i : Int)).getD 0 from (by show (0 : Int) ≤ (i : Int); omega)), dt (show (some (i : Int)).getD 0 ≤ ((i + 1 : Nat) : Int) from (by show (i : Int) ≤ ((i + 1 : Nat) : Int); omega)), dt (show ((i + 1 : Nat) : Int) ≤ (l.length : Int) by omega)]
      rw [dt (show (i : Int) < ((ends l i).length : Int) by omega), blt_ofT (show ((i : Int)).toNat < (ends l i).length by omega), ble_of (show (ends l i).length + [(((cat (l.take (i + 1))).length : Nat) : Int)].length ≤ 1073741824 by simp; omega), ← ends_step]
      simp only [Nat.beq_refl]
      rfl)
    (by
      show st_laws_FnTracks_0 R l (ends l l.length) (l.length : Int) (l.length : Int) m false = _
      unfold st_laws_FnTracks_0
      rw [df (show ¬ (l.length : Int) < (l.length : Int) by omega)]
      simp only [Nat.beq_refl]
      rfl)
  exact hi

theorem trk_loop1 (l : List (ByteArray × List (Nat × Nat))) (hl : l.length ≤ 4) (m : List Int) (A : ByteArray) (cut : Nat) : ∀ d i, i + d = l.length → (cat (l.take i)).length ≤ cut →
    ∃ k, k ≤ l.length ∧ (cat (l.take k)).length ≤ cut ∧ (k < l.length → cut < (cat (l.take (k + 1))).length) ∧
    W_laws_FnTracks_1 R (l, ends l l.length, (cut : Int), (i : Int), m, A, false, ()) = some (m, ends l l.length, A, (cut : Int), (k : Int), false, ()) := by
  intro d
  induction d with
  | zero =>
    intro i hi hc
    have hi : i = l.length := by omega
    subst hi
    refine ⟨l.length, Nat.le_refl _, hc, fun h => by omega, runW_out (x := (l, ends l l.length, (cut : Int), (l.length : Int), m, A, false, ())) ?_⟩
    show st_laws_FnTracks_1 R l (ends l l.length) (cut : Int) (l.length : Int) m A false = _
    unfold st_laws_FnTracks_1
    rw [df (show ¬ (l.length : Int) < (l.length : Int) by omega)]
    simp only [Nat.beq_refl]
    rfl
  | succ d ih =>
    intro i hi hc
    have a1 : decide ((i : Int) < (l.length : Int)) = true := dt (by omega)
    have hel := ends_len l l.length
    have hg : (ends l l.length).getD (((i + 1 : Nat) : Int)).toNat 0 = (((cat (l.take (i + 1))).length : Nat) : Int) := ends_get l (by omega)
    have hst : st_laws_FnTracks_1 R l (ends l l.length) (cut : Int) (i : Int) m A false = (if (cat (l.take (i + 1))).length ≤ cut then some (.inl (l, ends l l.length, (cut : Int), ((i + 1 : Nat) : Int), m, A, false, ())) else some (.inr (m, ends l l.length, A, (cut : Int), (i : Int), false, ()))) := by
      unfold st_laws_FnTracks_1
      rw [wrap_succ (by omega), a1, hg, dt (show 0 ≤ ((i + 1 : Nat) : Int) by omega), dt (show ((i + 1 : Nat) : Int) < ((ends l l.length).length : Int) by omega), blt_ofT (show (((i + 1 : Nat) : Int)).toNat < (ends l l.length).length by omega)]
      simp only [Nat.beq_refl]
      by_cases hc : (cat (l.take (i + 1))).length ≤ cut
      · rw [if_pos hc, dt (show (((cat (l.take (i + 1))).length : Nat) : Int) ≤ (cut : Int) by omega)]; rfl
      · rw [if_neg hc, df (show ¬ (((cat (l.take (i + 1))).length : Nat) : Int) ≤ (cut : Int) by omega)]; rfl
    by_cases hc2 : (cat (l.take (i + 1))).length ≤ cut
    · rw [if_pos hc2] at hst
      obtain ⟨k, k1, k2, k3, k4⟩ := ih (i + 1) (by omega) hc2
      exact ⟨k, k1, k2, k3, (runW_on (x := (l, ends l l.length, (cut : Int), (i : Int), m, A, false, ())) hst).trans k4⟩
    · rw [if_neg hc2] at hst
      exact ⟨i, by omega, hc, fun _ => by omega, runW_out (x := (l, ends l l.length, (cut : Int), (i : Int), m, A, false, ())) hst⟩
end Go.Dv
