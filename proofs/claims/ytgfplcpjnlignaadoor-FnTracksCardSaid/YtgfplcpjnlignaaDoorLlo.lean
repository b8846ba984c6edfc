/- UnpackPlaces: what it answers. -/
/- Texts that begin with others. -/
/- A track that is loaded: what any bytes answer. -/
import Derived.Test.YtgfplcpjnlignaaDoorLll

set_option linter.unusedSimpArgs false
set_option linter.unusedVariables false
namespace Go.Dv
open Go.Cv

theorem samePlace_refl (a b : Nat) : p_impl_SamePlace R a b a b = true := by
  unfold p_impl_SamePlace p_impl_SameNumber
  simp
theorem gps_steps {l : List (Nat × Nat)} (hg : Gps l) : stepsIn l := fun i hi => by
  have hm : l.getD i (0, 0) ∈ l := by rw [getD_lt hi]; exact List.getElem_mem hi
  obtain ⟨n, e, a1, a2, a3, a4, a5⟩ := gp_steps (hg _ hm)
  have : stp l i = (n, e, true) := by unfold stp; rw [← stepsOf_eq]; exact a3
  rw [this]; exact ⟨a1, a2⟩
theorem gps_packed {l : List (Nat × Nat)} (hg : Gps l) (h1 : 1 ≤ l.length) (h2 : l.length ≤ 64) : p_impl_ArePacked R l = true := by
  unfold p_impl_ArePacked
  have hv : (l.all fun x => p_impl_ValidPlace R x.fst x.snd) = true := by
    rw [List.all_eq_true]
    intro p hp
    obtain ⟨n, e, a1, a2, a3, a4, a5⟩ := gp_steps (hg p hp)
    exact a5
  rw [hv, dt h1, dt h2]
  obtain ⟨t, q1, _, q3⟩ := areAll_run l (by omega)
  show p_impl_areAll_impl_Place R l = true
  rw [q1, q3]
  intro i hi
  have hm : l.getD i (0, 0) ∈ l := by rw [getD_lt hi]; exact List.getElem_mem hi
  obtain ⟨n, e, a1, a2, a3, a4, a5⟩ := gp_steps (hg _ hm)
  generalize l.getD i (0, 0) = p at *
  have e0 : c0_impl_isPacked R p.1 p.2 = (n, e, true) := a3
  have e1 : c1_impl_isPacked R p.1 p.2 = (p.1, p.2, true) := by unfold c1_impl_isPacked; rw [e0]; exact a4
  unfold p_impl_isPacked
  rw [e0, e1]
  exact samePlace_refl _ _

theorem unpackP_any (s : ByteArray) (hs : s.size ≤ 4194304) : r_impl_UnpackPlaces R s = true ∧
    p_impl_UnpackPlaces R s = (match upk 66 s.data.toList [] 0 0 with
      | none => ([], false)
      | some l => bif (p_bytes (pk l l.length)).toList == s.toList then (l, true) else ([], false)) ∧
    (∀ l, upk 66 s.data.toList [] 0 0 = some l → Gps l ∧ 1 ≤ l.length ∧ l.length ≤ 64) := by
  have hc := upl_c0 s hs
  have hl : ∀ l, upk 66 s.data.toList [] 0 0 = some l → Gps l ∧ 1 ≤ l.length ∧ l.length ≤ 64 := fun l h => by
    obtain ⟨g1, g2, g3⟩ := upk_gps 66 _ [] 0 0 l (fun p hp => nomatch hp) h
    have : l.length ≠ 0 := fun h => g2 (List.eq_nil_of_length_eq_zero h)
    exact ⟨g1, by omega, g3 (Nat.zero_le _)⟩
  unfold r_impl_UnpackPlaces p_impl_UnpackPlaces
  rw [hc]
  cases h : upk 66 s.data.toList [] 0 0 with
  | none => exact ⟨rfl, rfl, fun l h => nomatch h⟩
  | some l =>
    obtain ⟨g1, g2, g3⟩ := hl l h
    have a1 := gps_packed g1 g2 g3
    have a2 := (packed_eq l (by omega)).2.1
    obtain ⟨b1, _, b3, _, _⟩ := pack_P (gps_steps g1) g3
    have f : ∀ (d : Unit × Bool × Unit ⊕ ByteArray × List (Nat × Nat) × List (Nat × Nat) × Bool × Unit) (x : ByteArray × List (Nat × Nat) × List (Nat × Nat) × Bool × Unit), (some (Sum.inr x) : Option (Unit × Bool × Unit ⊕ ByteArray × List (Nat × Nat) × List (Nat × Nat) × Bool × Unit)).getD d = .inr x := fun _ _ => rfl
    have g : ∀ (d z : ByteArray × List (Nat × Nat) × List (Nat × Nat) × Bool × Unit), getR (A := Unit × Bool × Unit) d (.inr z) = z := fun _ _ => rfl
    have g' : ∀ z : ByteArray × List (Nat × Nat) × List (Nat × Nat) × Bool × Unit, isL (A := Unit × Bool × Unit) (.inr z) = false := fun _ => rfl
    simp only [f, g, g', cond_false, a1, a2, b1, b3, Nat.beq_refl, Option.isSome_some, Bool.and_true, Bool.true_and, Bool.not_true]
    refine ⟨?_, ?_, fun l' h' => by cases h'; exact ⟨g1, g2, g3⟩⟩
    · cases ((p_bytes (pk l l.length)).toList == s.toList) <;> rfl
    · cases ((p_bytes (pk l l.length)).toList == s.toList) <;> rfl

/-- what was packed -/
theorem unpackP_pk {l : List (Nat × Nat)} (hg : Gps l) (h1 : 1 ≤ l.length) (h2 : l.length ≤ 64) : p_impl_UnpackPlaces R (p_bytes (pk l l.length)) = (l, true) := by
  obtain ⟨_, _, _, _, b5⟩ := pack_P (gps_steps hg) h2
  obtain ⟨q1, q2, q3⟩ := unpackP_any (p_bytes (pk l l.length)) (by omega)
  have hu : upk 66 (p_bytes (pk l l.length)).data.toList [] 0 0 = some l := by
    rw [bts_data]
    have e := pk_sfx l l.length 0
    rw [Nat.zero_add] at e
    rw [e]
    have : pk l 0 ++ sfx l l.length 0 = sfx l l.length 0 := rfl
    rw [this]
    have := upk_sfx l hg h2 l.length 0 66 (by omega) (fun _ => by omega) (by omega)
    rw [List.take_zero] at this
    exact this
  rw [q2, hu]
  simp only
  rw [toList_beq]; rfl
end Go.Dv


set_option linter.unusedSimpArgs false
set_option linter.unusedVariables false
namespace Go.Dv
open Go.Cv

theorem sub_list (s : ByteArray) (a b : Nat) : (p_sub s a b).data.toList = (s.data.toList.drop a).take (b - a) := by
  unfold p_sub
  simp [List.drop_take]
theorem sz_list (s : ByteArray) : s.data.toList.length = s.size := rfl
theorem ba_ext {s t : ByteArray} (h : s.data.toList = t.data.toList) : s = t := by
  apply ByteArray.ext
  apply Array.ext'
  exact h
theorem beq_list (s t : ByteArray) : (s.toList == t.toList) = decide (s.data.toList = t.data.toList) := by
  rw [ByteArray.toList_eq, ByteArray.toList_eq]
  by_cases h : s.data.toList = t.data.toList
  · rw [h, decide_eq_true rfl]; simp
  · rw [decide_eq_false h]
    simpa using h
theorem hasPrefix_eq (s t : ByteArray) : p_strings_HasPrefix R s t = decide (s.data.toList.take t.size = t.data.toList) ∧ r_strings_HasPrefix R s t = true := by
  unfold p_strings_HasPrefix r_strings_HasPrefix p_internal_stringslite_HasPrefix r_internal_stringslite_HasPrefix
  by_cases h : (s.size : Int) ≥ (t.size : Int)
  · rw [dt h]
    have hsub : (p_sub s 0 ((some (t.size : Int)).getD (s.size : Int)).toNat).data.toList = s.data.toList.take t.size := by
      show (p_sub s 0 t.size).data.toList = _
      rw [sub_list]; rfl
    rw [beq_list, hsub, dt (show (some (t.size : Int)).getD (s.size : Int) ≤ (s.size : Int) from h)]
    exact ⟨rfl, rfl⟩
  · rw [df h]
    refine ⟨?_, rfl⟩
    have : ¬ s.data.toList.take t.size = t.data.toList := fun he => by
      have := congrArg List.length he
      rw [List.length_take, sz_list, sz_list] at this
      omega
    rw [df this]; rfl
theorem cutPrefix_eq (s t : ByteArray) : r_strings_CutPrefix R s t = true ∧ (p_strings_CutPrefix R s t).2 = decide (s.data.toList.take t.size = t.data.toList) ∧
    (s.data.toList.take t.size = t.data.toList → (p_strings_CutPrefix R s t).1.data.toList = s.data.toList.drop t.size) := by
  obtain ⟨h1, h2⟩ := hasPrefix_eq s t
  have h1 : p_internal_stringslite_HasPrefix R s t = decide (s.data.toList.take t.size = t.data.toList) := h1
  have h2' : r_internal_stringslite_HasPrefix R s t = true := by
    unfold r_strings_HasPrefix at h2
    rw [Bool.and_true] at h2; exact h2
  have hc : c0_strings_CutPrefix R s t = p_internal_stringslite_CutPrefix R s t := rfl
  unfold r_strings_CutPrefix p_strings_CutPrefix r_internal_stringslite_CutPrefix
  rw [hc]
  unfold p_internal_stringslite_CutPrefix
  rw [h1, h2']
  by_cases h : s.data.toList.take t.size = t.data.toList
  · have hl : t.size ≤ s.size := by
      have := congrArg List.length h
      rw [List.length_take, sz_list, sz_list] at this
      omega
    rw [dt h, dt (show (some (t.size : Int)).getD 0 ≤ none.getD (s.size : Int) by show (t.size : Int) ≤ (s.size : Int); omega), dt (show none.getD (s.size : Int) ≤ (s.size : Int) from Int.le_refl _)]
    refine ⟨rfl, rfl, fun _ => ?_⟩
    show (p_sub s t.size s.size).data.toList = _
    exact sub_drop s t.size
  · rw [df h]
    exact ⟨rfl, rfl, fun h' => absurd h' h⟩
end Go.Dv


set_option linter.unusedSimpArgs false
set_option linter.unusedVariables false
namespace Go.Dv
open Go.Cv

def trkB : ByteArray := ByteArray.mk #[84, 82, 75, 50]
def noTk : ByteArray × List (Nat × Nat) × Int × Bool := (ByteArray.mk #[], [], 0, false)

theorem sub_size (s : ByteArray) (a b : Nat) (h : b ≤ s.size) : (p_sub s a b).size = b - a := by
  have h1 : (p_sub s a b).size = (p_sub s a b).data.toList.length := rfl
  rw [h1, sub_list, List.length_take, List.length_drop, sz_list]
  omega

theorem load_any (s : ByteArray) (hs : s.size ≤ 250) : r_impl_loadTrack R s = true ∧
    (p_impl_loadTrack R s = noTk ∨ ∃ nm l, Gps l ∧ 1 ≤ l.length ∧ l.length ≤ 64 ∧ nm.size ≤ 250 ∧ p_impl_ValidTrack R nm l = true ∧
      p_impl_loadTrack R s = (nm, l, ((p_impl_trackBytes R nm l).size : Int), decide (s.data.toList.take (p_impl_trackBytes R nm l).size = (p_impl_trackBytes R nm l).data.toList))) := by
  obtain ⟨a1, a2, a3⟩ := cutPrefix_eq s trkB
  have e0 : c0_impl_loadTrack R s = p_strings_CutPrefix R s trkB := rfl
  unfold r_impl_loadTrack p_impl_loadTrack
  have a1' : r_strings_CutPrefix R s (ByteArray.mk #[84, 82, 75, 50]) = true := a1
  rw [a1', e0, a2]
  by_cases hp : s.data.toList.take trkB.size = trkB.data.toList
  · have a3 := a3 hp
    rw [dt hp]
    generalize hr : (p_strings_CutPrefix R s trkB).1 = r at *
    have hrs : r.size + 4 = s.size := by
      have h1 := congrArg List.length a3
      rw [List.length_drop, sz_list, sz_list] at h1
      have h2 := congrArg List.length hp
      rw [List.length_take, sz_list] at h2
      have h4 : trkB.size = 4 := rfl
      have h5 : trkB.data.toList.length = 4 := rfl
      omega
    cases hb : (r.toList == (ByteArray.mk #[]).toList)
    · have hr0 : 0 < r.size := by
        rcases Nat.eq_zero_or_pos r.size with h | h
        · exfalso
          have : r.data.toList = [] := List.eq_nil_of_length_eq_zero h
          rw [beq_list, this] at hb
          have : decide (([] : List UInt8) = (ByteArray.mk #[]).data.toList) = true := rfl
          rw [this] at hb; cases hb
        · exact h
      have e1 : c1_impl_loadTrack R s = p_byteAt r 0 := by unfold c1_impl_loadTrack; rw [e0, hr]
      obtain ⟨n0, hn0, hn1⟩ : ∃ n : Nat, p_byteAt r 0 = (n : Int) ∧ n < 256 := ⟨(p_byteAt r 0).toNat, by have := byteAt_lt r 0; omega, by have := byteAt_lt r 0; omega⟩
      have w1 : IntKind.i64.wrap (IntKind.i64.wrap (n0 : Int) + 3) = ((n0 + 3 : Nat) : Int) := by
        rw [wrap_small (i := (n0 : Int)) (by omega) (by omega), wrap_small (by omega) (by omega)]; omega
      rw [e1, hn0, w1, dt (show 0 < (r.size : Int) by omega)]
      by_cases hlt : (r.size : Int) < ((n0 + 3 : Nat) : Int)
      · rw [dt hlt]; exact ⟨rfl, .inl rfl⟩
      · rw [df hlt]
        have w2 : IntKind.u8.wrap (1 + (n0 : Int)) = ((n0 + 1 : Nat) : Int) := by
          have : IntKind.u8.wrap (1 + (n0 : Int)) = 1 + (n0 : Int) := by
            unfold IntKind.wrap
            have e1 : (IntKind.u8.bits) = 8 := rfl
            simp [IntKind.signed, e1]
            omega
          rw [this]; omega
        have e2 : c2_impl_loadTrack R s = p_sub r 1 (n0 + 1) := by
          unfold c2_impl_loadTrack; rw [e1, e0, hr, hn0, w2]; rfl
        have z2 : (p_sub r 1 (n0 + 1)).size = n0 := by rw [sub_size r 1 (n0 + 1) (by omega)]; omega
        have w3 : IntKind.i64.wrap (1 + ((n0 : Nat) : Int)) = ((n0 + 1 : Nat) : Int) := by rw [wrap_small (by omega) (by omega)]; omega
        have e3 : c3_impl_loadTrack R s = p_sub r (n0 + 1) r.size := by
          unfold c3_impl_loadTrack; rw [e2, e0, hr, z2, w3]; rfl
        have z3 : (p_sub r (n0 + 1) r.size).size = r.size - (n0 + 1) := sub_size r (n0 + 1) r.size (Nat.le_refl _)
        rw [e2, w2, z2, w3, e3]
        generalize hq : p_sub r (n0 + 1) r.size = q at *
        generalize hnm : p_sub r 1 (n0 + 1) = nm at *
        have hq2 : 2 ≤ q.size := by omega
        obtain ⟨m0, hm0, hm1⟩ : ∃ n : Nat, p_byteAt q 0 = (n : Int) ∧ n < 256 := ⟨(p_byteAt q 0).toNat, by have := byteAt_lt q 0; omega, by have := byteAt_lt q 0; omega⟩
        obtain ⟨m1, hm2, hm3⟩ : ∃ n : Nat, p_byteAt q 1 = (n : Int) ∧ n < 256 := ⟨(p_byteAt q 1).toNat, by have := byteAt_lt q 1; omega, by have := byteAt_lt q 1; omega⟩
        have w4 : IntKind.i64.wrap (2 + IntKind.i64.wrap (IntKind.i64.wrap (m0 : Int) + IntKind.i64.wrap (IntKind.i64.wrap (m1 : Int) * Int.ofNat 256))) = ((2 + m0 + m1 * 256 : Nat) : Int) := by
          have e256 : Int.ofNat 256 = 256 := rfl
          rw [e256, wrap_small (i := (m0 : Int)) (by omega) (by omega), wrap_small (i := (m1 : Int)) (by omega) (by omega), wrap_small (i := (m1 : Int) * 256) (by omega) (by omega), wrap_small (i := (m0 : Int) + (m1 : Int) * 256) (by omega) (by omega), wrap_small (by omega) (by omega)]
          omega
        rw [hm0, hm2, w4, dt (show 0 < (q.size : Int) by omega), dt (show 1 < (q.size : Int) by omega)]
        rw [dt (show Int.ofNat 1 ≤ (some ((n0 + 1 : Nat) : Int)).getD (r.size : Int) by show (1 : Int) ≤ ((n0 + 1 : Nat) : Int); omega), dt (show (some ((n0 + 1 : Nat) : Int)).getD (r.size : Int) ≤ (r.size : Int) by show ((n0 + 1 : Nat) : Int) ≤ (r.size : Int); omega)]
        rw [dt (show 0 ≤ (some ((n0 + 1 : Nat) : Int)).getD 0 by show (0 : Int) ≤ ((n0 + 1 : Nat) : Int); omega), dt (show (some ((n0 + 1 : Nat) : Int)).getD 0 ≤ none.getD (r.size : Int) by show ((n0 + 1 : Nat) : Int) ≤ (r.size : Int); omega), dt (show none.getD (r.size : Int) ≤ (r.size : Int) from Int.le_refl _)]
        by_cases hlt2 : (q.size : Int) < ((2 + m0 + m1 * 256 : Nat) : Int)
        · rw [dt hlt2]; exact ⟨rfl, .inl rfl⟩
        · rw [df hlt2]
          have e4 : c4_impl_loadTrack R s = p_sub q 2 (2 + m0 + m1 * 256) := by
            unfold c4_impl_loadTrack; rw [e3, hm0, hm2, w4]; rfl
          have z4 : (p_sub q 2 (2 + m0 + m1 * 256)).size ≤ 250 := by rw [sub_size q 2 _ (by omega)]; omega
          obtain ⟨u1, u2, u3⟩ := unpackP_any (p_sub q 2 (2 + m0 + m1 * 256)) (by omega)
          have e5 : c5_impl_loadTrack R s = p_impl_UnpackPlaces R (p_sub q 2 (2 + m0 + m1 * 256)) := by unfold c5_impl_loadTrack; rw [e4]
          rw [e4, e5, u1]
          rw [dt (show Int.ofNat 2 ≤ (some ((2 + m0 + m1 * 256 : Nat) : Int)).getD (q.size : Int) by show (2 : Int) ≤ ((2 + m0 + m1 * 256 : Nat) : Int); omega), dt (show (some ((2 + m0 + m1 * 256 : Nat) : Int)).getD (q.size : Int) ≤ (q.size : Int) by show ((2 + m0 + m1 * 256 : Nat) : Int) ≤ (q.size : Int); omega)]
          cases hu : p_impl_UnpackPlaces R (p_sub q 2 (2 + m0 + m1 * 256)) with
          | mk l ok =>
            cases ok
            · exact ⟨rfl, .inl rfl⟩
            · have hg : Gps l ∧ 1 ≤ l.length ∧ l.length ≤ 64 := by
                rw [u2] at hu
                cases hk : upk 66 (p_sub q 2 (2 + m0 + m1 * 256)).data.toList [] 0 0 with
                | none => rw [hk] at hu; cases hu
                | some l' =>
                  rw [hk] at hu
                  cases hbb : ((p_bytes (pk l' l'.length)).toList == (p_sub q 2 (2 + m0 + m1 * 256)).toList)
                  · simp only [hbb] at hu; cases hu
                  · simp only [hbb] at hu; cases hu; exact u3 _ hk
              obtain ⟨g1, g2, g3⟩ := hg
              have hnms : nm.size ≤ 250 := by omega
              have v2 := (validTrack_eq nm l (by omega) (by omega)).2.1
              have t2 := (implTrack (s := nm) (by omega) (gps_steps g1) g3).2
              have e6 : c6_impl_loadTrack R s = p_impl_trackBytes R nm l := by unfold c6_impl_loadTrack; rw [e2, e5, hu]
              obtain ⟨f1, f2⟩ := hasPrefix_eq s (p_impl_trackBytes R nm l)
              rw [e6, v2, t2, f1, f2]
              simp only [Nat.beq_refl]
              cases hv : p_impl_ValidTrack R nm l
              · exact ⟨rfl, .inl rfl⟩
              · exact ⟨rfl, .inr ⟨nm, l, g1, g2, g3, hnms, hv, rfl⟩⟩
    · exact ⟨rfl, .inl rfl⟩
  · rw [df hp]; exact ⟨rfl, .inl rfl⟩
end Go.Dv
