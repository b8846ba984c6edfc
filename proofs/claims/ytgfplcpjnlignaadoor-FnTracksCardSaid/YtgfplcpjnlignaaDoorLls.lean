/- What draws tracks: all of them. -/
import Derived.Test.YtgfplcpjnlignaaDoorLlr

set_option linter.unusedSimpArgs false
set_option linter.unusedVariables false
namespace Go.Dv
open Go.Cv

def nms : List ByteArray := [(ByteArray.mk #[97]), (ByteArray.mk #[119, 97, 108, 107]), (ByteArray.mk #[99, 111, 97, 115, 116]), (ByteArray.mk #[122, 122])]
theorem nms_name (i : Nat) (h : i < 4) : p_impl_IsName R (nms.getD i (ByteArray.mk #[])) = true ∧ (nms.getD i (ByteArray.mk #[])).size ≤ 5 := by
  obtain rfl | rfl | rfl | rfl : i = 0 ∨ i = 1 ∨ i = 2 ∨ i = 3 := by omega
  all_goals exact ⟨(isName_eq _ (by decide)).1.trans (by decide), by decide⟩

/-- a track that is drawn -/
def Dt4 (t : ByteArray × List (Nat × Nat)) : Prop := Vt t ∧ 9 ≤ (tb t).size ∧ (tb t).size ≤ 40
theorem tb_size {t : ByteArray × List (Nat × Nat)} (h : Vt t) : (tb t).size = 9 + t.1.size + (pk t.2 t.2.length).length := by
  obtain ⟨g1, g2, g3, g4, g5⟩ := h
  have t1 := (implTrack (s := t.1) (by omega) (gps_steps g1) g3).1
  show (p_impl_trackBytes R t.1 t.2).size = _
  rw [t1, ByteArray.size_append, headB_size, p_bytes_size]
  unfold checkB
  rw [p_bytes_size]
  simp; omega

theorem text_ok {l : List Int} {n : Int} {r : List Int × Int × Int} (hb : By l) (h : At l n r) (hn : n ≤ 100000000000) :
    r_spec_l00Src_text R r.1 r.2.1 r.2.2 nms = true ∧ (p_impl_IsName R (p_spec_l00Src_text R r.1 r.2.1 r.2.2 nms).1 = true ∧ (p_spec_l00Src_text R r.1 r.2.1 r.2.2 nms).1.size ≤ 5) ∧ At l (n + 2) (p_spec_l00Src_text R r.1 r.2.1 r.2.2 nms).2 := by
  have a := pick_ok hb h hn (nms.length : Int)
  have e1 : c0_spec_l00Src_text R r.1 r.2.1 r.2.2 nms = p_spec_l00Src_pick R r.1 r.2.1 r.2.2 (nms.length : Int) := rfl
  have a2 := a.2.1.2 (by decide)
  refine ⟨?_, ?_, a.2.2⟩
  · unfold r_spec_l00Src_text
    rw [e1, a.1, decide_eq_true a.2.1.1, decide_eq_true a2]; rfl
  · unfold p_spec_l00Src_text
    rw [e1]
    have h4 : ((nms.length : Nat) : Int) = 4 := rfl
    rw [h4] at a2
    rw [h4]
    exact nms_name _ (by omega)

theorem b10out_run {l : List Int} (hb : By l) : ∀ (k : Nat) (acc : List (ByteArray × List (Nat × Nat))) (n : Int) (r : List Int × Int × Int), At l n r → n + 100 * (k : Int) ≤ 10000 → acc.length + k ≤ 4 → (∀ t ∈ acc, Dt4 t) →
    ∃ out, W_spec_B10Tracks_0 R ((), r, acc, (k : Int), (), ()) = some (out, (), ()) ∧ out.length ≤ 4 ∧ ∀ t ∈ out, Dt4 t := by
  intro k
  induction k with
  | zero =>
    intro acc n r h _ hl hx
    refine ⟨acc, runW_out (x := ((), r, acc, ((0 : Nat) : Int), (), ())) ?_, hl, hx⟩
    show st_spec_B10Tracks_0 R r.1 r.2.1 r.2.2 acc ((0 : Nat) : Int) = _
    unfold st_spec_B10Tracks_0
    rw [df (show ¬ ((0 : Nat) : Int) > 0 by decide)]
    simp only [Nat.beq_refl]
    rfl
  | succ k ih =>
    intro acc n r h hn hl hx
    have a0 := text_ok hb h (by omega)
    have e0 : k0_spec_B10Tracks_0 R r.1 r.2.1 r.2.2 acc ((k + 1 : Nat) : Int) = p_spec_l00Src_text R r.1 r.2.1 r.2.2 nms := rfl
    have a1 := pick_ok hb a0.2.2 (by omega) 4000000
    have e1 : k1_spec_B10Tracks_0 R r.1 r.2.1 r.2.2 acc ((k + 1 : Nat) : Int) = p_spec_l00Src_pick R (p_spec_l00Src_text R r.1 r.2.1 r.2.2 nms).2.1 (p_spec_l00Src_text R r.1 r.2.1 r.2.2 nms).2.2.1 (p_spec_l00Src_text R r.1 r.2.1 r.2.2 nms).2.2.2 4000000 := rfl
    generalize hP0 : p_spec_l00Src_text R r.1 r.2.1 r.2.2 nms = P0 at *
    have a2 := pick_ok hb a1.2.2 (by omega) 8000000
    have e2 : k2_spec_B10Tracks_0 R r.1 r.2.1 r.2.2 acc ((k + 1 : Nat) : Int) = p_spec_l00Src_pick R (p_spec_l00Src_pick R P0.2.1 P0.2.2.1 P0.2.2.2 4000000).2.1 (p_spec_l00Src_pick R P0.2.1 P0.2.2.1 P0.2.2.2 4000000).2.2.1 (p_spec_l00Src_pick R P0.2.1 P0.2.2.1 P0.2.2.2 4000000).2.2.2 8000000 := by unfold k2_spec_B10Tracks_0; rw [e1]
    generalize hP1 : p_spec_l00Src_pick R P0.2.1 P0.2.2.1 P0.2.2.2 4000000 = P1 at *
    have a3 := pick_ok hb a2.2.2 (by omega) 5
    have e3 : k3_spec_B10Tracks_0 R r.1 r.2.1 r.2.2 acc ((k + 1 : Nat) : Int) = p_spec_l00Src_pick R (p_spec_l00Src_pick R P1.2.1 P1.2.2.1 P1.2.2.2 8000000).2.1 (p_spec_l00Src_pick R P1.2.1 P1.2.2.1 P1.2.2.2 8000000).2.2.1 (p_spec_l00Src_pick R P1.2.1 P1.2.2.1 P1.2.2.2 8000000).2.2.2 5 := by unfold k3_spec_B10Tracks_0; rw [e2]
    generalize hP2 : p_spec_l00Src_pick R P1.2.1 P1.2.2.1 P1.2.2.2 8000000 = P2 at *
    generalize hP3 : p_spec_l00Src_pick R P2.2.1 P2.2.2.1 P2.2.2.2 5 = P3 at *
    obtain ⟨b0, ⟨b1, b2⟩, b3⟩ := a0
    obtain ⟨c0, ⟨c1, c2⟩, c3⟩ := a1
    obtain ⟨d0, ⟨d1, d2⟩, d3⟩ := a2
    obtain ⟨f0, ⟨f1, f2⟩, f3⟩ := a3
    have c2 := c2 (by decide)
    have d2 := d2 (by decide)
    have f2 := f2 (by decide)
    obtain ⟨m, hm⟩ := Int.eq_ofNat_of_zero_le f1
    have hm4 : m ≤ 4 := by omega
    have wx : IntKind.i64.wrap (P1.1 - 2000000) = P1.1 - 2000000 := wrap_small (by omega) (by omega)
    have wy : IntKind.i64.wrap (P2.1 - 4000000) = P2.1 - 4000000 := wrap_small (by omega) (by omega)
    have wk : IntKind.i64.wrap (((k + 1 : Nat) : Int) - 1) = (k : Int) := by rw [wrap_small (by omega) (by omega)]; omega
    have wm : IntKind.i64.wrap (1 + P3.1) = ((m + 1 : Nat) : Int) := by rw [wrap_small (by omega) (by omega)]; omega
    have hks : Ks [] (P1.1 - 2000000) (P2.1 - 4000000) := ⟨(fun p hp => nomatch hp), .inl ⟨rfl, by omega, by omega, by omega, by omega⟩⟩
    obtain ⟨r', pl', x', y', i1, i2, i3, i4⟩ := b10in_run hb P0.1 acc ((k + 1 : Nat) : Int) ((k + 1 : Nat) : Int) true nms P0.1 P1.1 (P1.1 - 2000000) P2.1 (P2.1 - 4000000) P3.1 ((m + 1 : Nat) : Int) (m + 1) [] (P1.1 - 2000000) (P2.1 - 4000000) _ P3.2 hks f3 (by omega) (by show 0 + (m + 1) ≤ 5; omega) (by omega) (by omega) (by omega) (by omega)
    have e4 : k4_spec_B10Tracks_0 R r.1 r.2.1 r.2.2 acc ((k + 1 : Nat) : Int) = some ((), r', acc, ((k + 1 : Nat) : Int), (), P0.1, pl', x', y', 0, ((k + 1 : Nat) : Int), true, (), nms, P0.1, (), P1.1, (P1.1 - 2000000), (), P2.1, (P2.1 - 4000000), (), P3.1, ((m + 1 : Nat) : Int), 0, false, (), ()) := by
      unfold k4_spec_B10Tracks_0
      rw [e0, e1, e2, e3, wx, wy, wm]
      exact i1
    have hl5 : pl'.length = m + 1 := by rw [i3]; show 0 + (m + 1) = m + 1; omega
    have hD : Dt4 (P0.1, pl') := by
      have hV : Vt (P0.1, pl') := by
        refine ⟨i4.1, by show 1 ≤ pl'.length; omega, by show pl'.length ≤ 64; omega, by show P0.1.size ≤ 250; omega, ?_⟩
        show p_impl_ValidTrack R P0.1 pl' = true
        unfold p_impl_ValidTrack
        rw [b1, gps_packed i4.1 (by omega) (by omega)]; rfl
      refine ⟨hV, ?_, ?_⟩
      · rw [tb_size hV]; omega
      · rw [tb_size hV]
        show 9 + P0.1.size + (pk pl' pl'.length).length ≤ 40
        rcases i4.2 with ⟨hn, _⟩ | ⟨_, hp⟩
        · rw [hn] at hl5; cases hl5
        · omega
    have hst : st_spec_B10Tracks_0 R r.1 r.2.1 r.2.2 acc ((k + 1 : Nat) : Int) = some (.inl ((), r', acc ++ [(P0.1, pl')], (k : Int), (), ())) := by
      unfold st_spec_B10Tracks_0
      rw [e4, e2, e1, e0, dt (show ((k + 1 : Nat) : Int) > 0 by omega)]
      rw [show r_spec_l00Src_text R r.1 r.2.1 r.2.2 [(ByteArray.mk #[97]), (ByteArray.mk #[119, 97, 108, 107]), (ByteArray.mk #[99, 111, 97, 115, 116]), (ByteArray.mk #[122, 122])] = true from b0, c0, d0, f0]
      simp only [Option.getD_some, Option.isSome_some, Nat.beq_refl]
      rw [ble_of (show acc.length + [(P0.1, pl')].length ≤ 1073741824 by simp; omega), wk]
      rfl
    obtain ⟨out, o1, o2, o3⟩ := ih (acc ++ [(P0.1, pl')]) _ r' i2 (by omega) (by rw [List.length_append, List.length_singleton]; omega) (fun t ht => by
      rcases List.mem_append.1 ht with ht | ht
      · exact hx t ht
      · rw [List.mem_singleton.1 ht]; exact hD)
    exact ⟨out, (runW_on (x := ((), r, acc, ((k + 1 : Nat) : Int), (), ())) hst).trans o1, o2, o3⟩

theorem b10Tracks_ok {l : List Int} (hb : By l) : r_spec_B10Tracks R l = true ∧ (p_spec_B10Tracks R l).length ≤ 4 ∧ ∀ t ∈ p_spec_B10Tracks R l, Dt4 t := by
  have h : At l 0 (p_spec_l00From R l) := ⟨rfl, Int.le_refl _, Int.le_refl _⟩
  have e0 : c0_spec_B10Tracks R l = p_spec_l00From R l := rfl
  have a0 := pick_ok hb h (by omega) 5
  have e1 : c1_spec_B10Tracks R l = p_spec_l00Src_pick R (p_spec_l00From R l).1 (p_spec_l00From R l).2.1 (p_spec_l00From R l).2.2 5 := rfl
  generalize hP : p_spec_l00Src_pick R (p_spec_l00From R l).1 (p_spec_l00From R l).2.1 (p_spec_l00From R l).2.2 5 = P at *
  obtain ⟨b0, ⟨b1, b2⟩, b3⟩ := a0
  have b2 := b2 (by decide)
  obtain ⟨m, hm⟩ := Int.eq_ofNat_of_zero_le b1
  obtain ⟨out, o1, o2, o3⟩ := b10out_run hb m [] _ P.2 b3 (by omega) (by show 0 + m ≤ 4; omega) (fun t ht => nomatch ht)
  have e2 : c2_spec_B10Tracks R l = some (out, (), ()) := by
    unfold c2_spec_B10Tracks
    rw [e1, hm]; exact o1
  unfold r_spec_B10Tracks p_spec_B10Tracks
  rw [e2, e0, b0]
  simp only [Option.getD_some, Option.isSome_some, Nat.beq_refl]
  exact ⟨rfl, o2, o3⟩
end Go.Dv
