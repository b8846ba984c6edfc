/- FnTracks: the law. -/
/- FnTracks: the law, put together. -/
import Derived.Test.YtgfplcpjnlignaaDoorLlu

set_option linter.unusedSimpArgs false
set_option linter.unusedVariables false
namespace Go.Dv
open Go.Cv

theorem whole_ok {l : List (ByteArray × List (Nat × Nat))} (hl : l.length ≤ 4) (hx : ∀ t ∈ l, Dt4 t) {A : ByteArray} (hA : A.data.toList = cat l) (hs : A.size ≤ 160) :
    r_impl_RecoverTracks R A = true ∧ p_impl_RecoverTracks R A = (l, (A.size : Int), true) := by
  obtain ⟨q1, q2⟩ := recover_eq A (by omega)
  have hsz : (cat l).length = A.size := by rw [← hA]; rfl
  have h := rcv_own A (by omega) l 8 0 (fun t ht => (hx t ht).1) (by omega) (Nat.zero_le _) (by rw [List.drop_zero, hA, List.take_length])
  rw [Nat.zero_add, hsz, rcv_end A (by omega), List.append_nil] at h
  exact ⟨q1, by rw [q2, h, hsz]⟩

theorem cut_ok {l : List (ByteArray × List (Nat × Nat))} (hl : l.length ≤ 4) (hx : ∀ t ∈ l, Dt4 t) {A : ByteArray} (hA : A.data.toList = cat l) (hs : A.size ≤ 160) {cut k : Nat} (hc : cut < A.size)
    (hk : k ≤ l.length) (h1 : (cat (l.take k)).length ≤ cut) (h2 : k < l.length → cut < (cat (l.take (k + 1))).length) :
    r_impl_RecoverTracks R (p_sub A 0 cut) = true ∧ p_impl_RecoverTracks R (p_sub A 0 cut) = (l.take k, (((cat (l.take k)).length : Nat) : Int), true) := by
  have hsz : (cat l).length = A.size := by rw [← hA]; rfl
  have hz : (p_sub A 0 cut).size = cut := by rw [sub_size A 0 cut (by omega)]; rfl
  have hd : (p_sub A 0 cut).data.toList = (cat l).take cut := by rw [sub_list, hA]; rfl
  have hklt : k < l.length := by
    rcases Nat.lt_or_ge k l.length with h | h
    · exact h
    · rw [List.take_of_length_le h] at h1; omega
  have hsplit : cat l = cat (l.take k) ++ ((tb (l.getD k tk0)).data.toList ++ cat (l.drop (k + 1))) := by
    rw [← List.append_assoc, ← cat_take hklt, ← cat_append, List.take_append_drop]
  have hm : l.getD k tk0 ∈ l := by rw [getD_lt hklt]; exact List.getElem_mem hklt
  obtain ⟨v1, v2, v3⟩ := hx _ hm
  have hcs : (cat (l.take (k + 1))).length = (cat (l.take k)).length + (tb (l.getD k tk0)).size := by rw [cat_take hklt, List.length_append, sz_list]
  have h2 := h2 hklt
  have hcl : ((tb (l.getD k tk0)).data.toList).length = (tb (l.getD k tk0)).size := rfl
  obtain ⟨q1, q2⟩ := recover_eq (p_sub A 0 cut) (by omega)
  have h := rcv_own (p_sub A 0 cut) (by omega) (l.take k) 8 0 (fun t ht => (hx t (List.mem_of_mem_take ht)).1) (by rw [List.length_take]; omega) (Nat.zero_le _) (by
    rw [List.drop_zero, hd, List.take_take, Nat.min_eq_left h1, hsplit, List.take_left])
  have hr := rcv_cut (t := l.getD k tk0) v1 (by omega) (p_sub A 0 cut) (by omega) (0 + (cat (l.take k)).length) (by rw [hz]; omega) (by
    rw [Nat.zero_add, hd, hz, hsplit, List.drop_take, List.drop_left, List.take_append_of_le_length (by rw [hcl]; omega)]) (8 - (l.take k).length)
  rw [hr, List.append_nil] at h
  exact ⟨q1, by rw [q2, h]⟩

theorem bent_ok {l : List (ByteArray × List (Nat × Nat))} (hl : l.length ≤ 4) (hx : ∀ t ∈ l, Dt4 t) {A : ByteArray} (hA : A.data.toList = cat l) (hs : A.size ≤ 160) {cut k : Nat} (hc : cut < A.size)
    (hk : k ≤ l.length) (h1 : (cat (l.take k)).length ≤ cut) (b : Int) : ∃ X o B, p_impl_RecoverTracks R (p_bytes ((p_ofText A).set cut b)) = (X, ((o : Nat) : Int), true) ∧ r_impl_RecoverTracks R (p_bytes ((p_ofText A).set cut b)) = true ∧
      p_impl_StoreTracks R X = (B, true) ∧ r_impl_StoreTracks R X = true ∧ k ≤ X.length ∧ o ≤ A.size ∧ B = p_bytes (((p_ofText A).set cut b).take o) := by
  have hsz : (cat l).length = A.size := by rw [← hA]; rfl
  have hlen : ((p_ofText A).set cut b).length = A.size := by rw [List.length_set, ofText_length]
  have hbsz : (p_bytes ((p_ofText A).set cut b)).size = A.size := by rw [p_bytes_size, hlen]
  have hd : (p_bytes ((p_ofText A).set cut b)).data.toList = (cat l).set cut (UInt8.ofNat b.toNat) := by
    rw [bts_data]
    unfold bts
    rw [List.map_set]
    have : (p_ofText A).map (fun x : Int => UInt8.ofNat x.toNat) = A.data.toList := by
      have h := congrArg (fun x : ByteArray => x.data.toList) (bytes_ofText A)
      have h : (p_bytes (p_ofText A)).data.toList = A.data.toList := h
      rw [bts_data] at h; exact h
    rw [this, hA]
  have htk : ((cat l).set cut (UInt8.ofNat b.toNat)).take (cat (l.take k)).length = cat (l.take k) := by
    rw [List.take_set_of_le h1]
    have : cat l = cat (l.take k) ++ cat (l.drop k) := by rw [← cat_append, List.take_append_drop]
    rw [this, List.take_left]
  generalize hC : p_bytes ((p_ofText A).set cut b) = C at *
  obtain ⟨q1, q2⟩ := recover_eq C (by omega)
  have h := rcv_own C (by omega) (l.take k) 8 0 (fun t ht => (hx t (List.mem_of_mem_take ht)).1) (by rw [List.length_take]; omega) (Nat.zero_le _) (by rw [List.drop_zero, hd, htk])
  obtain ⟨_, r2, r3, r4, r5⟩ := rcv_run C (by omega) 8 [] 0 rfl (Nat.zero_le _)
  have hkl : k ≤ (rcv 8 C 0).length := by rw [h, List.length_append, List.length_take]; omega
  generalize rcv 8 C 0 = X at *
  obtain ⟨s1, B, s2, s3⟩ := storeTs X (by omega) r2
  refine ⟨X, (cat X).length, B, q2, q1, s2, s1, hkl, by omega, ba_ext ?_⟩
  rw [s3, bts_data]
  unfold bts
  rw [List.map_take]
  have : (((p_ofText A).set cut b).map (fun x : Int => UInt8.ofNat x.toNat)) = C.data.toList := by
    rw [← hC, bts_data]; rfl
  rw [this]
  rw [List.drop_zero] at r3
  exact r3.symm
end Go.Dv


set_option linter.unusedSimpArgs false
set_option linter.unusedVariables false
namespace Go.Dv
open Go.Cv

theorem dtI {p : Prop} {i : Decidable p} (h : p) : @decide p i = true := decide_eq_true h
theorem law_Tracks (c m : List Int) (hc : By c) (hm : By m) : r_laws_FnTracks R c m = true ∧ p_laws_FnTracks R c m = true := by
  unfold r_laws_FnTracks p_laws_FnTracks
  cases h0 : p_laws_b10Long R c m
  case true => exact ⟨rfl, rfl⟩
  simp only [cond_false]
  obtain ⟨t1, z, t2, t3⟩ := at_ok hm 0 256 (by omega) (by omega) (by omega)
  obtain ⟨t4, z1, t5, t6⟩ := at_ok hm 1 256 (by omega) (by omega) (by omega)
  obtain ⟨t7, z2, t8, t9⟩ := at_ok hm 2 255 (by omega) (by omega) (by omega)
  have t1 : r_laws_b10At R m 0 256 = true := t1
  have t4 : r_laws_b10At R m 1 256 = true := t4
  have t7 : r_laws_b10At R m 2 255 = true := t7
  have t3 : p_laws_b10At R m 0 256 = (z : Int) := t3
  have t6 : p_laws_b10At R m 1 256 = (z1 : Int) := t6
  have t9 : p_laws_b10At R m 2 255 = (z2 : Int) := t9
  obtain ⟨p1, p2, p3⟩ := b10Tracks_ok hc
  have e0 : c0_laws_FnTracks R c m = p_spec_B10Tracks R c := rfl
  generalize hL : p_spec_B10Tracks R c = L at *
  have e1 : c1_laws_FnTracks R c m = some (.inr (m, L, ends L L.length, false, ())) := by
    unfold c1_laws_FnTracks; rw [e0]; exact trk_loop0 L p2 p3 m
  obtain ⟨s1, A, s2, s3⟩ := storeTs L (by omega) (fun t ht => (p3 t ht).1)
  have e2 : c2_laws_FnTracks R c m = (A, true) := by unfold c2_laws_FnTracks; rw [e1]; exact s2
  have hcl := cat_le p3 L.length (Nat.le_refl _)
  rw [List.take_length] at hcl
  have hsz : (cat L).length = A.size := by rw [← s3]; rfl
  have hA : A.size ≤ 160 := by omega
  obtain ⟨w1, w2⟩ := whole_ok p2 p3 s3 hA
  have e3 : c3_laws_FnTracks R c m = (L, (A.size : Int), true) := by unfold c3_laws_FnTracks; rw [e2]; exact w2
  have hel := ends_len L L.length
  have hend : (ends L L.length).getD ((L.length : Int)).toNat 0 = (A.size : Int) := by
    show (ends L L.length).getD L.length 0 = _
    rw [ends_get L (Nat.le_refl _), List.take_length, hsz]
  obtain ⟨u1, u2⟩ := sameT_refl L (by omega) (fun t ht => by have := (p3 t ht).1.2.2.1; omega)
  have n1 : ((A.size : Int) != (A.size : Int)) = false := by simp
  have hg : getR ([], [], [], false, ()) ((some (Sum.inr (m, L, ends L L.length, false, ())) : Option (Bool × Unit ⊕ List Int × List (ByteArray × List (Nat × Nat)) × List Int × Bool × Unit)).getD (Sum.inl (false, ()))) = (m, L, ends L L.length, false, ()) := rfl
  have hi : isL ((some (Sum.inr (m, L, ends L L.length, false, ())) : Option (Bool × Unit ⊕ List Int × List (ByteArray × List (Nat × Nat)) × List Int × Bool × Unit)).getD (Sum.inl (false, ()))) = false := rfl
  rw [e1, hg, hi, e2, e3]
  rw [p1, s1, w1, hend, n1, u1, u2, dtI (show (L.length : Int) < ((ends L L.length).length : Int) by omega), blt_ofT (show ((L.length : Int)).toNat < (ends L L.length).length by omega), t1, t4]
  by_cases hz : A.size = 0
  · rw [hz]; exact ⟨rfl, rfl⟩
  have n2 : ((A.size : Int) == 0) = false := by
    have : ¬ (A.size : Int) = 0 := by omega
    simpa using this
  have wz : (IntKind.i64.wrap (IntKind.i64.wrap (256 * (z : Int)) + (z1 : Int))).tmod (A.size : Int) = (((256 * z + z1) % A.size : Nat) : Int) := by
    rw [wrap_small (i := 256 * (z : Int)) (by omega) (by omega), wrap_small (by omega) (by omega)]
    have : (256 * (z : Int) + (z1 : Int)) = ((256 * z + z1 : Nat) : Int) := by omega
    rw [this]; exact (Int.ofNat_tmod _ _).symm
  have hcut : (256 * z + z1) % A.size < A.size := Nat.mod_lt _ (by omega)
  generalize hct : (256 * z + z1) % A.size = cut at *
  obtain ⟨k, k1, k2, k3, k4⟩ := trk_loop1 L p2 m A cut L.length 0 (by omega) (Nat.zero_le _)
  have e4 : c4_laws_FnTracks R c m = some (m, ends L L.length, A, (cut : Int), (k : Int), false, ()) := by
    unfold c4_laws_FnTracks; rw [e1, e2]
    rw [hg, t3, t6, wz]; exact k4
  have e5 : c5_laws_FnTracks R c m = p_sub A 0 cut := by unfold c5_laws_FnTracks; rw [e4]; rfl
  obtain ⟨x1, x2⟩ := cut_ok p2 p3 s3 hA hcut k1 k2 k3
  have e6 : c6_laws_FnTracks R c m = (L.take k, (((cat (L.take k)).length : Nat) : Int), true) := by unfold c6_laws_FnTracks; rw [e5]; exact x2
  have e7 : c7_laws_FnTracks R c m = p_ofText A := by unfold c7_laws_FnTracks; rw [e4]; rfl
  have hlo : (p_ofText A).length = A.size := ofText_length A
  generalize hb : IntKind.u8.wrap ((p_ofText A).getD cut 0 + IntKind.u8.wrap (IntKind.i64.wrap (1 + p_laws_b10At R m 2 255))) = b at *
  have e8 : c8_laws_FnTracks R c m = p_bytes ((p_ofText A).set cut b) := by
    unfold c8_laws_FnTracks; rw [e4, e7]
    simp only [Option.getD_some]
    show p_bytes ((p_ofText A).set cut (IntKind.u8.wrap ((p_ofText A).getD cut 0 + IntKind.u8.wrap (IntKind.i64.wrap (1 + p_laws_b10At R m 2 255))))) = _
    rw [hb]
  obtain ⟨X, o, B, y1, y2, y3, y4, y5, y6, y7⟩ := bent_ok p2 p3 s3 hA hcut k1 k2 b
  have e9 : c9_laws_FnTracks R c m = (X, (o : Int), true) := by unfold c9_laws_FnTracks; rw [e8]; exact y1
  have e10 : c10_laws_FnTracks R c m = (B, true) := by unfold c10_laws_FnTracks; rw [e9]; exact y3
  have hg4 : (some (m, ends L L.length, A, (cut : Int), (k : Int), false, ()) : Option (List Int × List Int × ByteArray × Int × Int × Bool × Unit)).getD ([], [], (ByteArray.mk #[]), 0, 0, false, ()) = (m, ends L L.length, A, (cut : Int), (k : Int), false, ()) := rfl
  rw [e4, hg4, e5, e6, e7, e8, e9, e10]
  have g1 : (ends L L.length).getD ((k : Int)).toNat 0 = (((cat (L.take k)).length : Nat) : Int) := ends_get L k1
  have g2 : ((L.take k).length : Int) = (k : Int) := by rw [List.length_take]; omega
  have n3 : (((((cat (L.take k)).length : Nat) : Int)) != (((cat (L.take k)).length : Nat) : Int)) = false := by simp
  have n4 : ((k : Int) != (k : Int)) = false := by simp
  have hb' : IntKind.u8.wrap ((p_ofText A).getD (Int.toNat (cut : Int)) 0 + IntKind.u8.wrap (IntKind.i64.wrap (1 + p_laws_b10At R m 2 255))) = b := hb
  have hsl : ((p_ofText A).set (Int.toNat (cut : Int)) b).length = A.size := by rw [List.length_set, hlo]
  have hto : ((some ((o : Nat) : Int)).getD ((p_ofText A).length : Int) - Int.ofNat 0).toNat = o := by
    show ((o : Int) - 0).toNat = o
    omega
  rw [n2, g1, g2, n3, n4, hb', hto, hsl, hlo, t7, x1, y2, y4]
  rw [ble_of (show A.size ≤ 1073741824 by omega), dtI (show 0 ≤ (cut : Int) by omega), dtI (show (cut : Int) < (A.size : Int) by omega), blt_ofT (show Int.toNat (cut : Int) < A.size by omega), dtI (show 0 ≤ (k : Int) by omega), dtI (show (k : Int) < ((ends L L.length).length : Int) by omega), blt_ofT (show Int.toNat (k : Int) < (ends L L.length).length by omega)]
  rw [dtI (show (X.length : Int) ≥ (k : Int) by omega), dtI (show (o : Int) ≥ 0 by omega), dtI (show (o : Int) ≤ (A.size : Int) by omega)]
  rw [dtI (show Int.ofNat 0 ≤ (some (cut : Int)).getD (A.size : Int) by show (0 : Int) ≤ (cut : Int); omega), dtI (show (some (cut : Int)).getD (A.size : Int) ≤ (A.size : Int) by show (cut : Int) ≤ (A.size : Int); omega)]
  rw [dtI (show Int.ofNat 0 ≤ (some (o : Int)).getD (A.size : Int) by show (0 : Int) ≤ (o : Int); omega), dtI (show (some (o : Int)).getD (A.size : Int) ≤ (A.size : Int) by show (o : Int) ≤ (A.size : Int); omega)]
  rw [ble_of (show 0 + o ≤ A.size by omega), List.drop_zero]
  simp only [Nat.beq_refl]
  have hBB : (B.toList == (p_bytes (((p_ofText A).set (Int.toNat (cut : Int)) b).take o)).toList) = true := by
    rw [y7]; exact bytes_beq _
  rw [hBB]
  exact ⟨rfl, rfl⟩
end Go.Dv
