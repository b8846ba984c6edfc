/- Printed by gen2.py. -/
/- The plain law of FnExactStoreTrack. -/
import Derived.Test.YtgfplcpjnlignaaDoorLhd
import Derived.Test.YtgfplcpjnlignaaDoorWkj

set_option linter.unusedVariables false
set_option linter.unusedSimpArgs false

-- GENERATED BELOW (gen.py)
namespace Go.Dv
open Go.Cv
noncomputable section
def c0_spec_l07Store (M : FOps) (a0_0 : ByteArray) (a0_1 : (List (Nat × Nat))) : List Int := p_ofText a0_0
def c1_spec_l07Store (M : FOps) (a0_0 : ByteArray) (a0_1 : (List (Nat × Nat))) : ByteArray := p_spec_l07Pack M a0_1
def c2_spec_l07Store (M : FOps) (a0_0 : ByteArray) (a0_1 : (List (Nat × Nat))) : List Int := p_ofText (c1_spec_l07Store M a0_0 a0_1)
def c3_spec_l07Store (M : FOps) (a0_0 : ByteArray) (a0_1 : (List (Nat × Nat))) : ByteArray := p_bytes ([84, 82, 75, 50] ++ [IntKind.u8.wrap (↑a0_0.size : Int)] ++ (c0_spec_l07Store M a0_0 a0_1) ++ [IntKind.u8.wrap ((↑(c1_spec_l07Store M a0_0 a0_1).size : Int).tmod 256), IntKind.u8.wrap (IntKind.i64.wrap ((↑(c1_spec_l07Store M a0_0 a0_1).size : Int).tdiv 256))] ++ (c2_spec_l07Store M a0_0 a0_1))
def c4_spec_l07Store (M : FOps) (a0_0 : ByteArray) (a0_1 : (List (Nat × Nat))) : Int := p_spec_l01Check M 0 (c3_spec_l07Store M a0_0 a0_1)
def p_spec_l07Store (M : FOps) (a0_0 : ByteArray) (a0_1 : (List (Nat × Nat))) : ByteArray :=
  p_bytes ([84, 82, 75, 50] ++ [IntKind.u8.wrap (↑a0_0.size : Int)] ++ (c0_spec_l07Store M a0_0 a0_1) ++ [IntKind.u8.wrap ((↑(c1_spec_l07Store M a0_0 a0_1).size : Int).tmod 256), IntKind.u8.wrap (IntKind.i64.wrap ((↑(c1_spec_l07Store M a0_0 a0_1).size : Int).tdiv 256))] ++ (c2_spec_l07Store M a0_0 a0_1) ++ [IntKind.u8.wrap ((c4_spec_l07Store M a0_0 a0_1).tmod 256), IntKind.u8.wrap (IntKind.i64.wrap ((c4_spec_l07Store M a0_0 a0_1).tdiv 256))])
def r_spec_l07Store (M : FOps) (a0_0 : ByteArray) (a0_1 : (List (Nat × Nat))) : Bool :=
  ((a0_0.size.ble 1073741824) && (((([84, 82, 75, 50] ++ [IntKind.u8.wrap (↑a0_0.size : Int)]).length + (c0_spec_l07Store M a0_0 a0_1).length).ble 1073741824) && ((r_spec_l07Pack M a0_1) && ((([84, 82, 75, 50] ++ [IntKind.u8.wrap (↑a0_0.size : Int)] ++ (c0_spec_l07Store M a0_0 a0_1)).length.beq ([84, 82, 75, 50] ++ [IntKind.u8.wrap (↑a0_0.size : Int)] ++ (c0_spec_l07Store M a0_0 a0_1)).length && (([84, 82, 75, 50] ++ [IntKind.u8.wrap (↑a0_0.size : Int)] ++ (c0_spec_l07Store M a0_0 a0_1)).length + [IntKind.u8.wrap ((↑(c1_spec_l07Store M a0_0 a0_1).size : Int).tmod 256), IntKind.u8.wrap (IntKind.i64.wrap ((↑(c1_spec_l07Store M a0_0 a0_1).size : Int).tdiv 256))].length).ble 1073741824) && (((c1_spec_l07Store M a0_0 a0_1).size.ble 1073741824) && ((([84, 82, 75, 50] ++ [IntKind.u8.wrap (↑a0_0.size : Int)] ++ (c0_spec_l07Store M a0_0 a0_1) ++ [IntKind.u8.wrap ((↑(c1_spec_l07Store M a0_0 a0_1).size : Int).tmod 256), IntKind.u8.wrap (IntKind.i64.wrap ((↑(c1_spec_l07Store M a0_0 a0_1).size : Int).tdiv 256))]).length.beq ([84, 82, 75, 50] ++ [IntKind.u8.wrap (↑a0_0.size : Int)] ++ (c0_spec_l07Store M a0_0 a0_1) ++ [IntKind.u8.wrap ((↑(c1_spec_l07Store M a0_0 a0_1).size : Int).tmod 256), IntKind.u8.wrap (IntKind.i64.wrap ((↑(c1_spec_l07Store M a0_0 a0_1).size : Int).tdiv 256))]).length && (([84, 82, 75, 50] ++ [IntKind.u8.wrap (↑a0_0.size : Int)] ++ (c0_spec_l07Store M a0_0 a0_1) ++ [IntKind.u8.wrap ((↑(c1_spec_l07Store M a0_0 a0_1).size : Int).tmod 256), IntKind.u8.wrap (IntKind.i64.wrap ((↑(c1_spec_l07Store M a0_0 a0_1).size : Int).tdiv 256))]).length + (c2_spec_l07Store M a0_0 a0_1).length).ble 1073741824) && ((r_spec_l01Check M 0 (c3_spec_l07Store M a0_0 a0_1)) && ((([84, 82, 75, 50] ++ [IntKind.u8.wrap (↑a0_0.size : Int)] ++ (c0_spec_l07Store M a0_0 a0_1) ++ [IntKind.u8.wrap ((↑(c1_spec_l07Store M a0_0 a0_1).size : Int).tmod 256), IntKind.u8.wrap (IntKind.i64.wrap ((↑(c1_spec_l07Store M a0_0 a0_1).size : Int).tdiv 256))] ++ (c2_spec_l07Store M a0_0 a0_1)).length.beq ([84, 82, 75, 50] ++ [IntKind.u8.wrap (↑a0_0.size : Int)] ++ (c0_spec_l07Store M a0_0 a0_1) ++ [IntKind.u8.wrap ((↑(c1_spec_l07Store M a0_0 a0_1).size : Int).tmod 256), IntKind.u8.wrap (IntKind.i64.wrap ((↑(c1_spec_l07Store M a0_0 a0_1).size : Int).tdiv 256))] ++ (c2_spec_l07Store M a0_0 a0_1)).length && (([84, 82, 75, 50] ++ [IntKind.u8.wrap (↑a0_0.size : Int)] ++ (c0_spec_l07Store M a0_0 a0_1) ++ [IntKind.u8.wrap ((↑(c1_spec_l07Store M a0_0 a0_1).size : Int).tmod 256), IntKind.u8.wrap (IntKind.i64.wrap ((↑(c1_spec_l07Store M a0_0 a0_1).size : Int).tdiv 256))] ++ (c2_spec_l07Store M a0_0 a0_1)).length + [IntKind.u8.wrap ((c4_spec_l07Store M a0_0 a0_1).tmod 256), IntKind.u8.wrap (IntKind.i64.wrap ((c4_spec_l07Store M a0_0 a0_1).tdiv 256))].length).ble 1073741824) && true))))))))
end
end Go.Dv


set_option linter.unusedSimpArgs false
namespace Go.Dv
open Go.Cv

theorem two_bytes {x : Int} (h0 : 0 ≤ x) (h1 : x < 1099511627776) : [IntKind.u8.wrap (x.tmod 256), IntKind.u8.wrap (IntKind.i64.wrap (x.tdiv 256))] = [IntKind.u8.wrap x, IntKind.u8.wrap (x / Int.ofNat 256)] := by
  have e : (Int.ofNat 256) = 256 := rfl
  rw [e, Int.tmod_eq_emod_of_nonneg h0, Int.tdiv_eq_ediv_of_nonneg h0, wrap_small (by omega) (by omega), wrap8, wrap8, wrap8]
  congr 1
  omega

theorem ofText_length (t : ByteArray) : (p_ofText t).length = t.size := by simp [p_ofText]

theorem pack_P {l : List (Nat × Nat)} (h : stepsIn l) (hl : l.length ≤ 64) : p_impl_packPlaces R l = p_bytes (pk l l.length) ∧ p_spec_l07Pack R l = p_bytes (pk l l.length) ∧ r_impl_packPlaces R l = true ∧ r_spec_l07Pack R l = true ∧ (p_bytes (pk l l.length)).size ≤ 640 := by
  unfold p_impl_packPlaces p_spec_l07Pack r_impl_packPlaces r_spec_l07Pack
  rw [specPack h hl, implPack h hl]
  refine ⟨rfl, rfl, rfl, rfl, ?_⟩
  rw [bytes_size]
  have := (pk_in h l.length (Nat.le_refl _)).2.2
  omega

def headB (s P : ByteArray) : ByteArray := { data := #[84, 82, 75, 50] } ++ p_bytes [IntKind.u8.wrap (s.size : Int)] ++ s ++ p_bytes [IntKind.u8.wrap (P.size : Int), IntKind.u8.wrap ((P.size : Int) / Int.ofNat 256)] ++ P
def checkB (s : ByteArray) : ByteArray := p_bytes [IntKind.u8.wrap (chk s s.size), IntKind.u8.wrap (chk s s.size / Int.ofNat 256)]
theorem trk2 : p_bytes [84, 82, 75, 50] = { data := #[84, 82, 75, 50] } := by rfl
theorem headB_size (s P : ByteArray) : (headB s P).size = 7 + s.size + P.size := by
  unfold headB
  simp only [ByteArray.size_append, bytes_size]
  have : (ByteArray.mk #[84, 82, 75, 50]).size = 4 := rfl
  rw [this]; simp; omega

theorem implCheckB (s : ByteArray) (h : s.size ≤ 4194304) : p_impl_checkBytes R s = checkB s ∧ r_impl_checkBytes R s = true := by
  have hw : p_impl_within R 0 0 65002 = true := rfl
  unfold p_impl_checkBytes r_impl_checkBytes p_impl_CheckOf r_impl_CheckOf
  rw [hw, implCheck s h]
  exact ⟨rfl, rfl⟩
theorem specCheckB (s : ByteArray) (h : s.size ≤ 4194304) : p_spec_l01Check R 0 s = chk s s.size ∧ r_spec_l01Check R 0 s = true := by
  unfold p_spec_l01Check r_spec_l01Check
  rw [specCheck s h]
  exact ⟨rfl, rfl⟩

theorem implTrack {s : ByteArray} {l : List (Nat × Nat)} (hs : s.size ≤ 1048576) (h : stepsIn l) (hl : l.length ≤ 64) : p_impl_trackBytes R s l = headB s (p_bytes (pk l l.length)) ++ checkB (headB s (p_bytes (pk l l.length))) ∧ r_impl_trackBytes R s l = true := by
  obtain ⟨p1, p2, p3, p4, p5⟩ := pack_P h hl
  have hc0 : c0_impl_trackBytes R s l = p_bytes (pk l l.length) := p1
  generalize hP : p_bytes (pk l l.length) = P at *
  have hc1 : c1_impl_trackBytes R s l = p_bytes [IntKind.u8.wrap (P.size : Int), IntKind.u8.wrap ((P.size : Int) / Int.ofNat 256)] := by
    unfold c1_impl_trackBytes; rw [hc0]; rfl
  have hH : { data := #[84, 82, 75, 50] } ++ p_bytes [IntKind.u8.wrap (s.size : Int)] ++ s ++ (c1_impl_trackBytes R s l) ++ (c0_impl_trackBytes R s l) = headB s P := by
    rw [hc1, hc0]; rfl
  have hsz := headB_size s P
  obtain ⟨k1, k2⟩ := implCheckB (headB s P) (by omega)
  have hc2 : c2_impl_trackBytes R s l = checkB (headB s P) := by
    unfold c2_impl_trackBytes; rw [hH]; exact k1
  have hcs : (checkB (headB s P)).size = 2 := by unfold checkB; rw [bytes_size]; rfl
  have hm : (ByteArray.mk #[84, 82, 75, 50]).size = 4 := rfl
  have b1 : (({ data := #[84, 82, 75, 50] } ++ p_bytes [IntKind.u8.wrap (s.size : Int)]).size + s.size).ble 4611686018427387904 = true := ble_of (by simp only [ByteArray.size_append, bytes_size, hm, List.length_cons, List.length_nil]; omega)
  have b2 : (({ data := #[84, 82, 75, 50] } ++ p_bytes [IntKind.u8.wrap (s.size : Int)] ++ s).size + (c1_impl_trackBytes R s l).size).ble 4611686018427387904 = true := ble_of (by rw [hc1]; simp only [ByteArray.size_append, bytes_size, hm, List.length_cons, List.length_nil]; omega)
  have b3 : (({ data := #[84, 82, 75, 50] } ++ p_bytes [IntKind.u8.wrap (s.size : Int)] ++ s ++ (c1_impl_trackBytes R s l)).size + (c0_impl_trackBytes R s l).size).ble 4611686018427387904 = true := ble_of (by rw [hc0, hc1]; simp only [ByteArray.size_append, bytes_size, hm, List.length_cons, List.length_nil]; omega)
  have b4 : ((headB s P).size + (checkB (headB s P)).size).ble 4611686018427387904 = true := ble_of (by omega)
  unfold p_impl_trackBytes r_impl_trackBytes
  rw [b1, b2, b3, hH, hc2, k2, b4, p3]
  exact ⟨rfl, rfl⟩

theorem specTrack {s : ByteArray} {l : List (Nat × Nat)} (hs : s.size ≤ 1048576) (h : stepsIn l) (hl : l.length ≤ 64) : p_spec_l07Store R s l = headB s (p_bytes (pk l l.length)) ++ checkB (headB s (p_bytes (pk l l.length))) ∧ r_spec_l07Store R s l = true := by
  obtain ⟨p1, p2, p3, p4, p5⟩ := pack_P h hl
  have hc1 : c1_spec_l07Store R s l = p_bytes (pk l l.length) := p2
  generalize hP : p_bytes (pk l l.length) = P at *
  have hc0 : c0_spec_l07Store R s l = p_ofText s := rfl
  have hc2 : c2_spec_l07Store R s l = p_ofText P := by unfold c2_spec_l07Store; rw [hc1]
  have ht : [IntKind.u8.wrap (((c1_spec_l07Store R s l).size : Int).tmod 256), IntKind.u8.wrap (IntKind.i64.wrap (((c1_spec_l07Store R s l).size : Int).tdiv 256))] = [IntKind.u8.wrap (P.size : Int), IntKind.u8.wrap ((P.size : Int) / Int.ofNat 256)] := by
    rw [hc1]; exact two_bytes (by omega) (by omega)
  have hH : p_bytes ([84, 82, 75, 50] ++ [IntKind.u8.wrap (s.size : Int)] ++ p_ofText s ++ [IntKind.u8.wrap (P.size : Int), IntKind.u8.wrap ((P.size : Int) / Int.ofNat 256)] ++ p_ofText P) = headB s P := by
    unfold headB
    simp only [bytes_append, bytes_ofText, trk2]
  have hsz := headB_size s P
  obtain ⟨k1, k2⟩ := specCheckB (headB s P) (by omega)
  have hc3 : c3_spec_l07Store R s l = headB s P := by
    unfold c3_spec_l07Store; rw [ht, hc2, hc0]; exact hH
  have hc4 : c4_spec_l07Store R s l = chk (headB s P) (headB s P).size := by
    unfold c4_spec_l07Store; rw [hc3]; exact k1
  obtain ⟨z1, z2⟩ := chk_in (headB s P) (headB s P).size
  have ht2 := two_bytes (x := chk (headB s P) (headB s P).size) z1 (by omega)
  unfold p_spec_l07Store r_spec_l07Store
  rw [ht, hc4, ht2, hc3, hc2, hc1, hc0, k2, p4]
  refine ⟨?_, ?_⟩
  · rw [bytes_append, hH]; rfl
  · have b0 : s.size.ble 1073741824 = true := ble_of (by omega)
    have bp : P.size.ble 1073741824 = true := ble_of (by omega)
    have bl : ∀ (a b : List Int), a.length + b.length ≤ 1073741824 → (a.length + b.length).ble 1073741824 = true := fun a b h => ble_of h
    rw [b0, bp]
    simp only [Nat.beq_refl]
    rw [bl _ _ (by simp [ofText_length]; omega), bl _ _ (by simp [ofText_length]; omega), bl _ _ (by simp [ofText_length]; omega), bl _ _ (by simp [ofText_length]; omega)]
    rfl

end Go.Dv
