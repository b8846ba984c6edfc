/- A track's own bytes are loaded as the track. -/
/- Tracks that are recovered. -/
import Derived.Test.YtgfplcpjnlignaaDoorLlo

set_option linter.unusedSimpArgs false
set_option linter.unusedVariables false
namespace Go.Dv
open Go.Cv

theorem byteAt_list (s : ByteArray) (i : Nat) (b : UInt8) (h : s.data.toList[i]? = some b) : p_byteAt s (i : Int) = (b.toNat : Int) := by
  have hi : i < s.size := by
    have := (List.getElem?_eq_some_iff.1 h).1
    exact this
  obtain ⟨b', h1, h2⟩ := byteAt_get s i hi
  rw [h] at h1; cases h1; exact h2

/-- the bytes of a track -/
theorem track_list {nm : ByteArray} {l : List (Nat × Nat)} (hn : nm.size ≤ 250) (hg : Gps l) (h2 : l.length ≤ 64) :
    ∃ ck : ByteArray, ck.size = 2 ∧ (p_impl_trackBytes R nm l).data.toList = 84 :: 82 :: 75 :: 50 :: UInt8.ofNat (IntKind.u8.wrap (nm.size : Int)).toNat :: (nm.data.toList ++ (UInt8.ofNat (IntKind.u8.wrap ((p_bytes (pk l l.length)).size : Int)).toNat :: UInt8.ofNat (IntKind.u8.wrap (((p_bytes (pk l l.length)).size : Int) / Int.ofNat 256)).toNat :: ((p_bytes (pk l l.length)).data.toList ++ ck.data.toList))) := by
  obtain ⟨t1, _⟩ := implTrack (s := nm) (by omega) (gps_steps hg) h2
  refine ⟨checkB (headB nm (p_bytes (pk l l.length))), ?_, ?_⟩
  · unfold checkB; rw [p_bytes_size]; rfl
  · rw [t1]
    unfold headB
    simp only [ByteArray.data_append, Array.toList_append, bts_data]
    simp [bts]

theorem load_own {nm : ByteArray} {l : List (Nat × Nat)} (hn : nm.size ≤ 250) (hg : Gps l) (h1 : 1 ≤ l.length) (h2 : l.length ≤ 64) (hv : p_impl_ValidTrack R nm l = true) (s : ByteArray) (hs : s.size ≤ 250)
    (hp : s.data.toList.take (p_impl_trackBytes R nm l).size = (p_impl_trackBytes R nm l).data.toList) : p_impl_loadTrack R s = (nm, l, ((p_impl_trackBytes R nm l).size : Int), true) := by
  obtain ⟨ck, hck, hT⟩ := track_list hn hg h2
  have hup := unpackP_pk hg h1 h2
  generalize hPb : p_bytes (pk l l.length) = P at *
  generalize hTb : p_impl_trackBytes R nm l = T at *
  have hTs : T.size = 7 + nm.size + P.size + 2 := by
    have := congrArg List.length hT
    rw [sz_list] at this
    simp at this
    have e1 : nm.data.toList.length = nm.size := rfl
    have e2 : P.data.toList.length = P.size := rfl
    have e3 : ck.data.toList.length = ck.size := rfl
    simp at e1 e2 e3
    omega
  have hle : T.size ≤ s.size := by
    have := congrArg List.length hp
    rw [List.length_take, sz_list, sz_list] at this
    omega
  obtain ⟨rest, hrest⟩ : ∃ rest, s.data.toList = T.data.toList ++ rest := ⟨s.data.toList.drop T.size, by rw [← hp]; exact (List.take_append_drop _ _).symm⟩
  have hnw : IntKind.u8.wrap (nm.size : Int) = (nm.size : Int) := by
    unfold IntKind.wrap
    have e1 : (IntKind.u8.bits) = 8 := rfl
    simp [IntKind.signed, e1]
    omega
  have hPw : IntKind.u8.wrap (P.size : Int) = (P.size : Int) := by
    unfold IntKind.wrap
    have e1 : (IntKind.u8.bits) = 8 := rfl
    simp [IntKind.signed, e1]
    omega
  have hPw2 : IntKind.u8.wrap ((P.size : Int) / Int.ofNat 256) = 0 := by
    have : (P.size : Int) / Int.ofNat 256 = 0 := by
      show (P.size : Int) / (256 : Int) = 0
      omega
    rw [this]; rfl
  rw [hnw, hPw, hPw2] at hT
  rw [hT] at hrest
  simp only [List.cons_append, List.append_assoc] at hrest
  obtain ⟨a1, a2, a3⟩ := cutPrefix_eq s trkB
  have e0 : c0_impl_loadTrack R s = p_strings_CutPrefix R s trkB := rfl
  have hpt : s.data.toList.take trkB.size = trkB.data.toList := by rw [hrest]; rfl
  have a3 := a3 hpt
  generalize hr : (p_strings_CutPrefix R s trkB).1 = r at *
  have hrl : r.data.toList = UInt8.ofNat ((nm.size : Int)).toNat :: (nm.data.toList ++ (UInt8.ofNat ((P.size : Int)).toNat :: UInt8.ofNat ((0 : Int)).toNat :: (P.data.toList ++ (ck.data.toList ++ rest)))) := by
    rw [a3, hrest]; rfl
  have hrs : r.size + 4 = s.size := by
    have h1 := congrArg List.length a3
    rw [List.length_drop, sz_list, sz_list] at h1
    have h4 : trkB.size = 4 := rfl
    omega
  have b0 : p_byteAt r 0 = ((nm.size : Nat) : Int) := by
    have := byteAt_list r 0 (UInt8.ofNat ((nm.size : Int)).toNat) (by rw [hrl]; rfl)
    refine Eq.trans this ?_
    show ((UInt8.ofNat nm.size).toNat : Int) = _
    rw [UInt8.toNat_ofNat']; omega
  have e1 : c1_impl_loadTrack R s = ((nm.size : Nat) : Int) := by unfold c1_impl_loadTrack; rw [e0, hr]; exact b0
  have w2 : IntKind.u8.wrap (1 + (nm.size : Int)) = ((nm.size + 1 : Nat) : Int) := by
    have : IntKind.u8.wrap (1 + (nm.size : Int)) = 1 + (nm.size : Int) := by
      unfold IntKind.wrap
      have e1 : (IntKind.u8.bits) = 8 := rfl
      simp [IntKind.signed, e1]
      omega
    rw [this]; omega
  have e2 : c2_impl_loadTrack R s = nm := by
    have : c2_impl_loadTrack R s = p_sub r 1 (nm.size + 1) := by unfold c2_impl_loadTrack; rw [e1, e0, hr, w2]; rfl
    rw [this]
    refine ba_ext ?_
    rw [sub_list, hrl, Nat.add_sub_cancel]
    show (nm.data.toList ++ _).take nm.size = _
    rw [show nm.size = nm.data.toList.length from rfl, List.take_left]
  have w3 : IntKind.i64.wrap (1 + ((nm.size : Nat) : Int)) = ((nm.size + 1 : Nat) : Int) := by rw [wrap_small (by omega) (by omega)]; omega
  have e3 : c3_impl_loadTrack R s = p_sub r (nm.size + 1) r.size := by
    unfold c3_impl_loadTrack; rw [e2, e0, hr, w3]; rfl
  have hql : (p_sub r (nm.size + 1) r.size).data.toList = UInt8.ofNat ((P.size : Int)).toNat :: UInt8.ofNat ((0 : Int)).toNat :: (P.data.toList ++ (ck.data.toList ++ rest)) := by
    rw [sub_drop, hrl]
    show (nm.data.toList ++ _).drop nm.size = _
    rw [show nm.size = nm.data.toList.length from rfl, List.drop_left]
  have z3 : (p_sub r (nm.size + 1) r.size).size = r.size - (nm.size + 1) := sub_size r (nm.size + 1) r.size (Nat.le_refl _)
  generalize hq : p_sub r (nm.size + 1) r.size = q at *
  have m0 : p_byteAt q 0 = ((P.size : Nat) : Int) := by
    have := byteAt_list q 0 (UInt8.ofNat ((P.size : Int)).toNat) (by rw [hql]; rfl)
    refine Eq.trans this ?_
    show ((UInt8.ofNat P.size).toNat : Int) = _
    rw [UInt8.toNat_ofNat']; omega
  have m1 : p_byteAt q 1 = 0 := byteAt_list q 1 (UInt8.ofNat ((0 : Int)).toNat) (by rw [hql]; rfl)
  have w4 : IntKind.i64.wrap (2 + IntKind.i64.wrap (IntKind.i64.wrap ((P.size : Nat) : Int) + IntKind.i64.wrap (IntKind.i64.wrap 0 * Int.ofNat 256))) = ((2 + P.size : Nat) : Int) := by
    have e256 : IntKind.i64.wrap (IntKind.i64.wrap 0 * Int.ofNat 256) = 0 := by decide
    rw [e256, wrap_small (i := ((P.size : Nat) : Int)) (by omega) (by omega), wrap_small (i := ((P.size : Nat) : Int) + 0) (by omega) (by omega), wrap_small (by omega) (by omega)]
    omega
  have e4 : c4_impl_loadTrack R s = P := by
    have : c4_impl_loadTrack R s = p_sub q 2 (2 + P.size) := by unfold c4_impl_loadTrack; rw [e3, m0, m1, w4]; rfl
    rw [this]
    refine ba_ext ?_
    rw [sub_list, hql, Nat.add_sub_cancel_left]
    show (P.data.toList ++ _).take P.size = _
    rw [show P.size = P.data.toList.length from rfl, List.take_left]
  have e5 : c5_impl_loadTrack R s = (l, true) := by unfold c5_impl_loadTrack; rw [e4]; exact hup
  have e6 : c6_impl_loadTrack R s = T := by unfold c6_impl_loadTrack; rw [e2, e5]; exact hTb
  have hb : (r.toList == (ByteArray.mk #[]).toList) = false := by
    rw [beq_list, hrl]
    exact df (fun h => by cases h)
  have w1 : IntKind.i64.wrap (IntKind.i64.wrap ((nm.size : Nat) : Int) + 3) = ((nm.size + 3 : Nat) : Int) := by
    rw [wrap_small (i := ((nm.size : Nat) : Int)) (by omega) (by omega), wrap_small (by omega) (by omega)]; omega
  obtain ⟨f1, f2⟩ := hasPrefix_eq s T
  unfold p_impl_loadTrack
  rw [e1, e2, e3, e5, e6, e0, a2, dt hpt, hr, hb, w1, df (show ¬ (r.size : Int) < ((nm.size + 3 : Nat) : Int) by omega), m0, m1, w4, df (show ¬ (q.size : Int) < ((2 + P.size : Nat) : Int) by omega), f1, dt hp]
  simp only [hv]
  rfl
end Go.Dv


set_option linter.unusedSimpArgs false
set_option linter.unusedVariables false
namespace Go.Dv
open Go.Cv

/-- a valid track, not too long -/
def Vt (t : ByteArray × List (Nat × Nat)) : Prop := Gps t.2 ∧ 1 ≤ t.2.length ∧ t.2.length ≤ 64 ∧ t.1.size ≤ 250 ∧ p_impl_ValidTrack R t.1 t.2 = true
noncomputable def tb (t : ByteArray × List (Nat × Nat)) : ByteArray := p_impl_trackBytes R t.1 t.2
/-- the bytes of tracks, one after another -/
noncomputable def cat : List (ByteArray × List (Nat × Nat)) → List UInt8
  | [] => []
  | t :: r => (tb t).data.toList ++ cat r
/-- the tracks at the beginning of what is left -/
noncomputable def rcv : Nat → ByteArray → Nat → List (ByteArray × List (Nat × Nat))
  | 0, _, _ => []
  | k + 1, s, a => if (p_impl_loadTrack R (p_sub s a s.size)).2.2.2 = true then ((p_impl_loadTrack R (p_sub s a s.size)).1, (p_impl_loadTrack R (p_sub s a s.size)).2.1) :: rcv k s (a + (p_impl_loadTrack R (p_sub s a s.size)).2.2.1.toNat) else []

theorem load_cases (s : ByteArray) (hs : s.size ≤ 250) (h : (p_impl_loadTrack R s).2.2.2 = true) : ∃ t, Vt t ∧ p_impl_loadTrack R s = (t.1, t.2, ((tb t).size : Int), true) ∧ s.data.toList.take (tb t).size = (tb t).data.toList ∧ (tb t).size ≤ s.size := by
  rcases (load_any s hs).2 with h' | ⟨nm, l, g1, g2, g3, g4, g5, h'⟩
  · rw [h'] at h; cases h
  · rw [h'] at h
    have hd := of_decide_eq_true (show decide _ = true from h)
    refine ⟨(nm, l), ⟨g1, g2, g3, g4, g5⟩, by rw [h', dt hd]; rfl, hd, ?_⟩
    have := congrArg List.length hd
    rw [List.length_take, sz_list, sz_list] at this
    show (p_impl_trackBytes R nm l).size ≤ s.size
    omega

theorem rcv_run (s : ByteArray) (hs : s.size ≤ 250) : ∀ (k : Nat) (acc : List (ByteArray × List (Nat × Nat))) (a : Nat), acc.length + k = 8 → a ≤ s.size →
    W_impl_RecoverTracks_0 R (s, acc, (a : Int), [], 0, false, ()) = some (acc ++ rcv k s a, ((a + (cat (rcv k s a)).length : Nat) : Int), [], 0, false, ()) ∧
    (∀ t ∈ rcv k s a, Vt t) ∧ (s.data.toList.drop a).take (cat (rcv k s a)).length = cat (rcv k s a) ∧ a + (cat (rcv k s a)).length ≤ s.size ∧ (rcv k s a).length ≤ k := by
  intro k
  induction k with
  | zero =>
    intro acc a hk ha
    refine ⟨?_, fun t ht => (nomatch ht), by show (s.data.toList.drop a).take 0 = []; rfl, by show a + 0 ≤ s.size; omega, Nat.le_refl _⟩
    refine runW_out ?_
    show st_impl_RecoverTracks_0 R s acc (a : Int) [] 0 false = _
    unfold st_impl_RecoverTracks_0
    rw [df (show ¬ (acc.length : Int) < 8 by omega), Nat.beq_refl, Nat.beq_refl]
    show some (Sum.inr (acc, (a : Int), [], 0, false, ())) = some (Sum.inr (acc ++ [], ((a + 0 : Nat) : Int), [], 0, false, ()))
    rw [List.append_nil]; rfl
  | succ k ih =>
    intro acc a hk ha
    have hz : (p_sub s a s.size).size ≤ 250 := by rw [sub_size s a s.size (Nat.le_refl _)]; omega
    have hr := (load_any (p_sub s a s.size) hz).1
    have hk0 : k0_impl_RecoverTracks_0 R s acc (a : Int) [] 0 false = p_sub s a s.size := rfl
    have hk1 : k1_impl_RecoverTracks_0 R s acc (a : Int) [] 0 false = p_impl_loadTrack R (p_sub s a s.size) := rfl
    have hbase : st_impl_RecoverTracks_0 R s acc (a : Int) [] 0 false = (if (p_impl_loadTrack R (p_sub s a s.size)).2.2.2 = true then
        some (.inl (s, acc ++ [((p_impl_loadTrack R (p_sub s a s.size)).1, (p_impl_loadTrack R (p_sub s a s.size)).2.1)], IntKind.i64.wrap ((a : Int) + (p_impl_loadTrack R (p_sub s a s.size)).2.2.1), [], 0, false, ())) else some (.inr (acc, (a : Int), [], 0, false, ()))) := by
      unfold st_impl_RecoverTracks_0
      rw [hk0, hk1, hr, dt (show (acc.length : Int) < 8 by omega), dt (show 0 ≤ (some (a : Int)).getD 0 by show (0 : Int) ≤ (a : Int); omega), dt (show (some (a : Int)).getD 0 ≤ none.getD (s.size : Int) by show (a : Int) ≤ (s.size : Int); omega), dt (show none.getD (s.size : Int) ≤ (s.size : Int) from Int.le_refl _)]
      simp only [Nat.beq_refl]
      cases hv : (p_impl_loadTrack R (p_sub s a s.size)).2.2.2
      · rfl
      · rw [if_pos rfl, ble_of (show acc.length + [((p_impl_loadTrack R (p_sub s a s.size)).1, (p_impl_loadTrack R (p_sub s a s.size)).2.1)].length ≤ 1073741824 by simp; omega)]
        rfl
    by_cases hv : (p_impl_loadTrack R (p_sub s a s.size)).2.2.2 = true
    · obtain ⟨t, ht, hl, hp, hle⟩ := load_cases _ hz hv
      rw [if_pos hv, hl] at hbase
      have hle2 : (tb t).size + a ≤ s.size := by rw [sub_size s a s.size (Nat.le_refl _)] at hle; omega
      have hw : IntKind.i64.wrap ((a : Int) + ((tb t).size : Int)) = ((a + (tb t).size : Nat) : Int) := by rw [wrap_small (by omega) (by omega)]; omega
      have hrc : rcv (k + 1) s a = t :: rcv k s (a + (tb t).size) := by
        rw [rcv, if_pos hv, hl]; rfl
      have hcat : ∀ X, cat (t :: X) = (tb t).data.toList ++ cat X := fun X => rfl
      have hst : st_impl_RecoverTracks_0 R s acc (a : Int) [] 0 false = some (.inl (s, acc ++ [t], ((a + (tb t).size : Nat) : Int), [], 0, false, ())) := by
        rw [hbase]; simp only; rw [hw]
      rw [sub_drop] at hp
      clear hbase hl hk1 hr hv
      rw [hrc]
      clear hrc
      have hB : (tb t).data.toList.length = (tb t).size := rfl
      generalize tb t = B at *
      obtain ⟨q1, q2, q3, q4, q5⟩ := ih (acc ++ [t]) (a + B.size) (by rw [List.length_append, List.length_singleton]; omega) (by omega)
      generalize rcv k s (a + B.size) = X at *
      have hcl : (cat (t :: X)).length = B.size + (cat X).length := by
        rw [hcat, List.length_append, hB]
      refine ⟨?_, ?_, ?_, by rw [hcl]; omega, by rw [List.length_cons]; omega⟩
      · refine (runW_on (step := fun x => st_impl_RecoverTracks_0 R x.1 x.2.1 x.2.2.1 x.2.2.2.1 x.2.2.2.2.1 x.2.2.2.2.2.1) (x := (s, acc, (a : Int), [], 0, false, ())) hst).trans ?_
        refine q1.trans ?_
        rw [hcl, List.append_assoc, List.singleton_append, Nat.add_assoc]
      · intro t' ht'
        rcases List.mem_cons.1 ht' with rfl | ht'
        · exact ht
        · exact q2 t' ht'
      · rw [hcl]
        have h1 : (s.data.toList.drop a).drop B.size = s.data.toList.drop (a + B.size) := by rw [List.drop_drop]
        rw [List.take_add, hp, h1, q3, hcat]
    · rw [if_neg hv] at hbase
      have hrc : rcv (k + 1) s a = [] := by rw [rcv, if_neg hv]
      rw [hrc]
      refine ⟨?_, fun t ht => (nomatch ht), by show (s.data.toList.drop a).take 0 = []; rfl, by show a + 0 ≤ s.size; omega, Nat.zero_le _⟩
      refine (runW_out (step := fun x => st_impl_RecoverTracks_0 R x.1 x.2.1 x.2.2.1 x.2.2.2.1 x.2.2.2.2.1 x.2.2.2.2.2.1) (x := (s, acc, (a : Int), [], 0, false, ())) hbase).trans ?_
      show some (acc, (a : Int), [], 0, false, ()) = some (acc ++ [], ((a + 0 : Nat) : Int), [], 0, false, ())
      rw [List.append_nil]; rfl

/-- what begins with tracks' bytes -/
theorem rcv_own (s : ByteArray) (hs : s.size ≤ 250) : ∀ (ts : List (ByteArray × List (Nat × Nat))) (k a : Nat), (∀ t ∈ ts, Vt t) → ts.length ≤ k → a ≤ s.size → (s.data.toList.drop a).take (cat ts).length = cat ts →
    rcv k s a = ts ++ rcv (k - ts.length) s (a + (cat ts).length)
  | [], k, a, _, _, _, _ => rfl
  | t :: r, k, a, hv, hk, ha, hp => by
    obtain ⟨k, rfl⟩ : ∃ k', k = k' + 1 := ⟨k - 1, by simp at hk; omega⟩
    have hz : (p_sub s a s.size).size ≤ 250 := by rw [sub_size s a s.size (Nat.le_refl _)]; omega
    obtain ⟨g1, g2, g3, g4, g5⟩ := hv t (List.mem_cons_self ..)
    have hcl : (cat (t :: r)).length = (tb t).size + (cat r).length := by rw [cat, List.length_append]; rfl
    rw [hcl, List.take_add] at hp
    have hlen : ((s.data.toList.drop a).take (tb t).size).length = (tb t).size := by
      have h1 := congrArg List.length hp
      rw [List.length_append, List.length_take, List.length_take, hcl] at h1
      rw [List.length_take]
      omega
    obtain ⟨p1, p2⟩ := List.append_inj (show (s.data.toList.drop a).take (tb t).size ++ ((s.data.toList.drop a).drop (tb t).size).take (cat r).length = (tb t).data.toList ++ cat r from hp) (by rw [hlen]; rfl)
    have hl := load_own g4 g1 g2 g3 g5 (p_sub s a s.size) hz (by rw [sub_drop]; exact p1)
    have hle : a + (tb t).size ≤ s.size := by
      rw [List.length_take, List.length_drop, sz_list] at hlen
      omega
    have ih := rcv_own s hs r k (a + (tb t).size) (fun t' h => hv t' (List.mem_cons_of_mem _ h)) (by simp at hk; omega) hle (by rw [← List.drop_drop]; exact p2)
    rw [rcv, if_pos (by rw [hl]), hl]
    show (t.1, t.2) :: rcv k s (a + (tb t).size) = _
    rw [ih, hcl, List.cons_append, List.length_cons, Nat.add_sub_add_right, Nat.add_assoc]

theorem recover_eq (s : ByteArray) (hs : s.size ≤ 250) : r_impl_RecoverTracks R s = true ∧ p_impl_RecoverTracks R s = (rcv 8 s 0, (((cat (rcv 8 s 0)).length : Nat) : Int), true) := by
  obtain ⟨h, _⟩ := rcv_run s hs 8 [] 0 rfl (Nat.zero_le _)
  have hc : c0_impl_RecoverTracks R s = some (rcv 8 s 0, (((cat (rcv 8 s 0)).length : Nat) : Int), [], 0, false, ()) := by
    refine Eq.trans h ?_
    rw [Nat.zero_add]; rfl
  unfold r_impl_RecoverTracks p_impl_RecoverTracks
  rw [hc]
  simp only [Option.getD_some, Option.isSome_some, Nat.beq_refl]
  exact ⟨rfl, trivial⟩
end Go.Dv
