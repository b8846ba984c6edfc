/- What FnProducts draws, and its texts read back. -/
import Derived.Test.YtjohfkfpfjdceaaGreatDoorLlb
import Derived.Test.YtjohfkfpfjdceaaGreatDoorLlc
import Derived.Test.YtjohfkfpfjdceaaGreatDoorWlg

set_option linter.unusedSimpArgs false
set_option linter.unusedVariables false
namespace Go.Dv
open Go.Cv Ieee

/-! ### what is drawn -/
theorem dcomplex_ok {l : List Int} {n : Int} {r : List Int × Int × Int} (hb : By l) (h : At l n r) (hn : n ≤ 100000000) :
    r_spec_l01DrawComplex R r.1 r.2.1 r.2.2 = true ∧ (p_spec_l01DrawComplex R r.1 r.2.1 r.2.2).1 < 4294967296 ∧ (p_spec_l01DrawComplex R r.1 r.2.1 r.2.2).2.1 < 4294967296 ∧ At l (n + 20) (p_spec_l01DrawComplex R r.1 r.2.1 r.2.2).2.2 := by
  have a0 := float_ok hb h (by omega)
  have a1 := float_ok hb a0.2.2 (by omega)
  have e0 : c0_spec_l01DrawComplex R r.1 r.2.1 r.2.2 = p_spec_l01DrawFloat R r.1 r.2.1 r.2.2 := rfl
  unfold r_spec_l01DrawComplex p_spec_l01DrawComplex c1_spec_l01DrawComplex
  rw [e0, a0.1, a1.1]
  exact ⟨rfl, a0.2.1, a1.2.1, a1.2.2.mono (by omega)⟩
theorem fine_ok {l : List Int} {n : Int} {r : List Int × Int × Int} (hb : By l) (h : At l n r) (hn : n ≤ 100000000) :
    r_spec_l01DrawFine R r.1 r.2.1 r.2.2 = true ∧ (p_spec_l01DrawFine R r.1 r.2.1 r.2.2).1 < 4294967296 ∧ (p_spec_l01DrawFine R r.1 r.2.1 r.2.2).2.1 < 4294967296 ∧ At l (n + 20) (p_spec_l01DrawFine R r.1 r.2.1 r.2.2).2.2 := by
  have a0 := pick_ok hb h (by omega) 65
  have a1 := pick_ok hb a0.2.2 (by omega) 65
  have e0 : c0_spec_l01DrawFine R r.1 r.2.1 r.2.2 = p_spec_l00Src_pick R r.1 r.2.1 r.2.2 65 := rfl
  unfold r_spec_l01DrawFine p_spec_l01DrawFine c1_spec_l01DrawFine
  rw [e0, a0.1, a1.1]
  exact ⟨rfl, (cw_bin _ _ _).1, (cw_bin _ _ _).1, a1.2.2.mono (by omega)⟩

def Two (x : Nat × Nat) : Prop := x.1 < 4294967296 ∧ x.2 < 4294967296

theorem complexes_run {l : List Int} (hb : By l) (st : Bool) : ∀ (k : Nat) (acc : List (Nat × Nat)) (n : Int) (r : List Int × Int × Int), At l n r → n + 20 * (k : Int) ≤ 1000000 → acc.length + k ≤ 1000000 → (∀ x ∈ acc, Two x) →
    ∃ out r', W_spec_l01DrawComplexes_0 R ((), r, (k : Int), acc, st, (), ()) = some (out, (), r', ()) ∧ out.length = acc.length + k ∧ (∀ x ∈ out, Two x) := by
  intro k
  induction k with
  | zero =>
    intro acc n r h _ _ hx
    refine ⟨acc, r, runW_out ?_, by omega, hx⟩
    show st_spec_l01DrawComplexes_0 R r.1 r.2.1 r.2.2 ((0 : Nat) : Int) acc st = _
    unfold st_spec_l01DrawComplexes_0
    have e : decide (((0 : Nat) : Int) > 0) = false := by decide
    rw [e]
    have e2 : acc.length.beq acc.length = true := Nat.beq_refl _
    rw [e2]; rfl
  | succ k ih =>
    intro acc n r h hn hk hx
    have step : ∀ x y r1, (p_spec_l01DrawComplex R r.1 r.2.1 r.2.2 = (x, y, r1) ∧ st = true ∨ p_spec_l01DrawFine R r.1 r.2.1 r.2.2 = (x, y, r1) ∧ st = false) →
        st_spec_l01DrawComplexes_0 R r.1 r.2.1 r.2.2 ((k + 1 : Nat) : Int) acc st = some (.inl ((), r1, (k : Int), acc ++ [(x, y)], st, (), ())) := fun x y r1 hr => by
      unfold st_spec_l01DrawComplexes_0
      have e : decide (((k + 1 : Nat) : Int) > 0) = true := decide_eq_true (by omega)
      have ew : IntKind.i64.wrap (((k + 1 : Nat) : Int) - 1) = (k : Int) := by rw [wrap_small (by omega) (by omega)]; omega
      have e2 : acc.length.beq acc.length = true := Nat.beq_refl _
      have e3 : ∀ y : Nat × Nat, (acc.length + [y].length).ble 1073741824 = true := fun y => by rw [Nat.ble_eq]; simp; omega
      have e4 : ∀ y : Nat × Nat, (acc ++ [y]).length.beq (acc ++ [y]).length = true := fun y => Nat.beq_refl _
      rw [e, ew, (dcomplex_ok hb h (by omega)).1, (fine_ok hb h (by omega)).1]
      simp only [e2, e3, e4]
      rcases hr with ⟨hr, rfl⟩ | ⟨hr, rfl⟩
      · rw [hr]; rfl
      · rw [hr]; rfl
    cases st with
    | true =>
      have a := dcomplex_ok hb h (by omega)
      obtain ⟨out, r', h1, h2, h3⟩ := ih (acc ++ [((p_spec_l01DrawComplex R r.1 r.2.1 r.2.2).1, (p_spec_l01DrawComplex R r.1 r.2.1 r.2.2).2.1)]) _ (p_spec_l01DrawComplex R r.1 r.2.1 r.2.2).2.2 a.2.2.2 (by omega) (by simp; omega) (fun x hx' => by
        rcases List.mem_append.1 hx' with h | h
        · exact hx x h
        · simp at h; rw [h]; exact ⟨a.2.1, a.2.2.1⟩)
      refine ⟨out, r', (runW_on (step _ _ _ (.inl ⟨rfl, rfl⟩))).trans h1, by rw [h2]; simp; omega, h3⟩
    | false =>
      have a := fine_ok hb h (by omega)
      obtain ⟨out, r', h1, h2, h3⟩ := ih (acc ++ [((p_spec_l01DrawFine R r.1 r.2.1 r.2.2).1, (p_spec_l01DrawFine R r.1 r.2.1 r.2.2).2.1)]) _ (p_spec_l01DrawFine R r.1 r.2.1 r.2.2).2.2 a.2.2.2 (by omega) (by simp; omega) (fun x hx' => by
        rcases List.mem_append.1 hx' with h | h
        · exact hx x h
        · simp at h; rw [h]; exact ⟨a.2.1, a.2.2.1⟩)
      refine ⟨out, r', (runW_on (step _ _ _ (.inr ⟨rfl, rfl⟩))).trans h1, by rw [h2]; simp; omega, h3⟩

theorem b10Any_ok {l : List Int} (hb : By l) (k : Nat) (hk : k ≤ 10000) : r_spec_B10Any R l (k : Int) = true ∧ (p_spec_B10Any R l (k : Int)).length = k ∧ ∀ x ∈ p_spec_B10Any R l (k : Int), Two x := by
  have h : At l 0 (p_spec_l00From R l) := ⟨rfl, Int.le_refl _, Int.le_refl _⟩
  have a0 := one_ok hb h (by omega) 5
  obtain ⟨out, r', h1, h2, h3⟩ := complexes_run hb (p_spec_l00Src_one R (p_spec_l00From R l).1 (p_spec_l00From R l).2.1 (p_spec_l00From R l).2.2 5).1 k [] 2 _ a0.2 (by omega) (by simp; omega) (fun x hx => nomatch hx)
  have e1 : c1_spec_l01DrawComplexes R (p_spec_l00From R l).1 (p_spec_l00From R l).2.1 (p_spec_l00From R l).2.2 (k : Int) = some (out, (), r', ()) := h1
  have e2 : p_spec_B10Any R l (k : Int) = out := by
    unfold p_spec_B10Any p_spec_l01DrawComplexes c0_spec_B10Any; rw [e1]; rfl
  refine ⟨?_, by rw [e2, h2]; simp, by rw [e2]; exact h3⟩
  have e3 : r_spec_l01DrawComplexes R (p_spec_l00From R l).1 (p_spec_l00From R l).2.1 (p_spec_l00From R l).2.2 (k : Int) = true := by
    unfold r_spec_l01DrawComplexes
    rw [a0.1, e1]
    have : out.length.beq out.length = true := Nat.beq_refl _
    simp only [Option.isSome_some, Option.getD_some, this, Bool.and_true]
  unfold r_spec_B10Any c0_spec_B10Any
  rw [e3]
  simp only [Nat.beq_refl, Bool.and_true, Bool.true_and]

theorem b10Complex_ok {l : List Int} (hb : By l) : r_spec_B10Complex R l = true ∧ (p_spec_B10Complex R l).1 < 4294967296 ∧ (p_spec_B10Complex R l).2 < 4294967296 := by
  have h : At l 0 (p_spec_l00From R l) := ⟨rfl, Int.le_refl _, Int.le_refl _⟩
  have a0 := one_ok hb h (by omega) 4
  have a1 := dcomplex_ok hb a0.2 (by omega)
  have a2 := fine_ok hb a0.2 (by omega)
  unfold r_spec_B10Complex p_spec_B10Complex c3_spec_B10Complex c2_spec_B10Complex c1_spec_B10Complex c0_spec_B10Complex
  rw [a0.1, a1.1, a2.1]
  generalize (p_spec_l00Src_one R (p_spec_l00From R l).1 (p_spec_l00From R l).2.1 (p_spec_l00From R l).2.2 4) = q0 at *
  cases hq : q0.1
  · exact ⟨rfl, a2.2.1, a2.2.2.1⟩
  · exact ⟨rfl, a1.2.1, a1.2.2.1⟩

theorem b10Whole_ok {l : List Int} (hb : By l) : r_spec_B10Whole R l 1 200 = true ∧ ∃ i j : Int, i.natAbs ≤ 200 ∧ j.natAbs ≤ 200 ∧ p_spec_B10Whole R l 1 200 = [(R.ofi .f32 i, R.ofi .f32 j)] := by
  have h : At l 0 (p_spec_l00From R l) := ⟨rfl, Int.le_refl _, Int.le_refl _⟩
  have a0 := pick_ok hb h (by omega) 401
  have a1 := pick_ok hb a0.2.2 (by omega) 401
  have hw : IntKind.i64.wrap (IntKind.i64.wrap (2 * 200) + 1) = 401 := by decide
  have b0 := a0.2.1
  have b1 := a1.2.1
  have b0' := b0.2 (by omega)
  have b1' := b1.2 (by omega)
  have s1 := a0.1
  have s2 := a1.1
  generalize hr : p_spec_l00From R l = r at *
  generalize h0 : p_spec_l00Src_pick R r.1 r.2.1 r.2.2 401 = q0 at *
  generalize h1 : p_spec_l00Src_pick R q0.2.1 q0.2.2.1 q0.2.2.2 401 = q1 at *
  have w0 : IntKind.i64.wrap (q0.1 - 200) = q0.1 - 200 := wrap_small (by omega) (by omega)
  have w1 : IntKind.i64.wrap (q1.1 - 200) = q1.1 - 200 := wrap_small (by omega) (by omega)
  have st1 : st_spec_B10Whole_0 R 1 200 r.1 r.2.1 r.2.2 [] = some (.inl (0, 200, (), q1.2, [(R.ofi .f32 (q0.1 - 200), R.ofi .f32 (q1.1 - 200))], (), ())) := by
    unfold st_spec_B10Whole_0
    rw [hw, h0, h1, s1, s2, w0, w1]
    rfl
  have st2 : st_spec_B10Whole_0 R 0 200 q1.2.1 q1.2.2.1 q1.2.2.2 [(R.ofi .f32 (q0.1 - 200), R.ofi .f32 (q1.1 - 200))] = some (.inr ([(R.ofi .f32 (q0.1 - 200), R.ofi .f32 (q1.1 - 200))], (), ())) := by
    unfold st_spec_B10Whole_0
    have e : decide ((0 : Int) > 0) = false := by decide
    rw [e]; rfl
  have hc : c1_spec_B10Whole R l 1 200 = some ([(R.ofi .f32 (q0.1 - 200), R.ofi .f32 (q1.1 - 200))], (), ()) := by
    unfold c1_spec_B10Whole c0_spec_B10Whole
    rw [hr]
    exact (runW_on (step := fun x => st_spec_B10Whole_0 R x.1 x.2.1 x.2.2.2.1.1 x.2.2.2.1.2.1 x.2.2.2.1.2.2 x.2.2.2.2.1) st1).trans (runW_out st2)
  refine ⟨by unfold r_spec_B10Whole; rw [hc]; rfl, q0.1 - 200, q1.1 - 200, by omega, by omega, by unfold p_spec_B10Whole; rw [hc]; rfl⟩

/-! ### texts -/
def tc (x : Nat × Nat) : ByteArray := tx x.1 ++ tx x.2
theorem tc_size (x : Nat × Nat) : (tc x).size = 16 := by unfold tc; rw [ByteArray.size_append, tx_size, tx_size]
theorem tc_list (x : Nat × Nat) : (tc x).data.toList = (tx x.1).data.toList ++ (tx x.2).data.toList := by
  unfold tc; rw [ByteArray.data_append, Array.toList_append]
theorem tc_free (x : Nat × Nat) : ∀ b ∈ (tc x).data.toList, ¬ b = 44 := by
  intro b hb
  rw [tc_list, List.mem_append] at hb
  rcases hb with h | h
  · exact tx_free _ b h
  · exact tx_free _ b h
theorem ctext_eq {x : Nat × Nat} (h : Two x) : p_impl_complexText R x.1 x.2 = tc x ∧ r_impl_complexText R x.1 x.2 = true := by
  obtain ⟨t1, t2⟩ := text_eq _ h.1
  obtain ⟨u1, u2⟩ := text_eq _ h.2
  unfold p_impl_complexText r_impl_complexText c1_impl_complexText c0_impl_complexText
  rw [t1, t2, u1, u2, tx_size, tx_size]
  exact ⟨rfl, rfl⟩
def cwords (l : List (Nat × Nat)) (i : Nat) : List ByteArray := (l.take i).map tc
theorem cwords_succ (l : List (Nat × Nat)) (i : Nat) (h : i < l.length) : cwords l (i + 1) = cwords l i ++ [tc (l.getD i (0, 0))] := by
  unfold cwords
  rw [List.take_succ_eq_append_getElem h, List.map_append, List.getD_eq_getElem?_getD, List.getElem?_eq_getElem h]; rfl
theorem cwords_len (l : List (Nat × Nat)) (i : Nat) (h : i ≤ l.length) : (cwords l i).length = i := by simp [cwords]; omega
theorem getD_two {l : List (Nat × Nat)} {i : Nat} (hi : i < l.length) (hx : ∀ x ∈ l, Two x) : Two (l.getD i (0, 0)) := by
  rw [List.getD_eq_getElem?_getD, List.getElem?_eq_getElem hi]
  exact hx _ (List.getElem_mem hi)

theorem cjoin_run (l : List (Nat × Nat)) (hl : l.length ≤ 1000000) (hx : ∀ x ∈ l, Two x) : c0_impl_joinTexts_complex64 R l = some (cwords l l.length, (ByteArray.mk #[]), ()) :=
  runW_count (step := fun x => st_impl_joinTexts_complex64_0 R x.2.1 x.2.2.1 x.2.2.2.1 x.2.2.2.2.1 x.2.2.2.2.2.1) (n := l.length) (mk := fun i => ((), cwords l i, l, (l.length : Int), (i : Int), (ByteArray.mk #[]), ())) (o := (cwords l l.length, (ByteArray.mk #[]), ()))
    (fun i hi => by
      simp only [st_impl_joinTexts_complex64_0]
      rw [wrap_succ (by omega)]
      have a1 : decide ((i : Int) < (l.length : Int)) = true := dt (by omega)
      have a2 : decide (0 ≤ (i : Int)) = true := dt (by omega)
      have hv : l.getD ((i : Int)).toNat (0, 0) = l.getD i (0, 0) := rfl
      obtain ⟨t1, t2⟩ := ctext_eq (getD_two hi hx)
      have b1 : Nat.ble ((cwords l i).length + 1) 1073741824 = true := by rw [cwords_len l i (by omega), Nat.ble_eq]; omega
      rw [hv, t1, t2, a1, a2, ← cwords_succ l i hi]
      simp only [List.length_singleton, b1, Nat.beq_refl, Bool.and_true]
      rfl)
    (by
      simp only [st_impl_joinTexts_complex64_0]
      have a1 : decide ((l.length : Int) < (l.length : Int)) = false := df (by omega)
      rw [a1]
      simp only [Nat.beq_refl, Bool.and_true]
      rfl)

/-- what comes back of a number -/
def cc (x : Nat × Nat) : Nat × Nat := (cn .f32 (bw x.1), cn .f32 (bw x.2))

theorem sub_lo (a b : ByteArray) (n : Nat) (h : a.size = n) : p_sub (a ++ b) 0 n = a := by
  unfold p_sub
  have hd : a.data.toList.length = n := h
  apply ByteArray.ext
  apply Array.ext'
  simp [ByteArray.data_append, ← hd]
  exact List.take_of_length_le (Nat.le_refl a.data.toList.length)
theorem sub_hi (a b : ByteArray) (n : Nat) (h : a.size = n) : p_sub (a ++ b) n (a ++ b).size = b := by
  unfold p_sub
  have hd : a.data.toList.length = n := h
  have h2 : (a ++ b).size = (a.data.toList ++ b.data.toList).length := by rw [ByteArray.size_append, List.length_append]; rfl
  apply ByteArray.ext
  apply Array.ext'
  rw [h2]
  simp [ByteArray.data_append, ← hd]
  rw [List.drop_of_length_le (show a.data.toList.length ≤ a.size from Nat.le_refl a.data.toList.length), List.take_nil, List.nil_append]
  exact List.take_of_length_le (Nat.le_refl b.data.toList.length)

theorem rbits_tx (x : Nat) (hx : x < 4294967296) : p_impl_readBits R (tx x) = (cn .f32 (bw x), true) ∧ r_impl_readBits R (tx x) = true := by
  obtain ⟨h1, h2⟩ := readBits_eq (tx x) (by rw [tx_size]; decide)
  rw [gw_tx x hx] at h2
  exact ⟨h2, h1⟩
theorem readC_eq {x : Nat × Nat} (h : Two x) : p_impl_readComplex R (tc x) = ((cc x).1, (cc x).2, true) ∧ r_impl_readComplex R (tc x) = true := by
  have e0 : c0_impl_readComplex R (tc x) = tx x.1 := by
    unfold c0_impl_readComplex tc
    exact sub_lo _ _ 8 (tx_size _)
  have e1 : c1_impl_readComplex R (tc x) = tx x.2 := by
    unfold c1_impl_readComplex tc
    exact sub_hi _ _ 8 (tx_size _)
  obtain ⟨t1, t2⟩ := rbits_tx _ h.1
  obtain ⟨u1, u2⟩ := rbits_tx _ h.2
  have hz : ((tc x).size : Int) = 16 := by rw [tc_size]; rfl
  unfold p_impl_readComplex r_impl_readComplex c2_impl_readComplex c3_impl_readComplex
  rw [e0, e1, t1, t2, u1, u2, hz]
  exact ⟨rfl, rfl⟩

theorem cread_run (l : List (Nat × Nat)) (hl : l.length ≤ 256) (hx : ∀ x ∈ l, Two x) :
    W_impl_readTexts_complex64_k_0 R (256, (), [], l.map tc, ((l.map tc).length : Int), 0, [], false, ()) = some (.inr (l.map cc, [], false, ())) :=
  runW_count (step := fun x => st_impl_readTexts_complex64_k_0 R x.1 x.2.2.1 x.2.2.2.1 x.2.2.2.2.1 x.2.2.2.2.2.1 x.2.2.2.2.2.2.1 x.2.2.2.2.2.2.2.1) (n := l.length)
    (mk := fun i => (256, (), (l.take i).map cc, l.map tc, ((l.map tc).length : Int), (i : Int), [], false, ())) (o := .inr (l.map cc, [], false, ()))
    (fun i hi => by
      simp only [st_impl_readTexts_complex64_k_0]
      rw [wrap_succ (by omega)]
      have hm : (l.map tc).length = l.length := List.length_map _
      have a1 : decide ((i : Int) < ((l.map tc).length : Int)) = true := dt (by rw [hm]; omega)
      have a2 : decide (0 ≤ (i : Int)) = true := dt (by omega)
      have a3 : Nat.blt ((i : Int)).toNat (l.map tc).length = true := by show Nat.blt i (l.map tc).length = true; rw [Nat.blt_eq, hm]; exact hi
      have hv : (l.map tc).getD ((i : Int)).toNat (ByteArray.mk #[]) = tc (l.getD i (0, 0)) := by
        show (l.map tc).getD i (ByteArray.mk #[]) = _
        rw [List.getD_eq_getElem?_getD, List.getElem?_map, List.getD_eq_getElem?_getD, List.getElem?_eq_getElem hi]; rfl
      obtain ⟨t1, t2⟩ := readC_eq (getD_two hi hx)
      have ht : ((l.take i).map cc).length = i := by simp; omega
      have a4 : ((((l.take i).map cc).length : Int) == 256) = false := by
        have : ¬ (((l.take i).map cc).length : Int) = 256 := by rw [ht]; omega
        simpa using this
      have b1 : Nat.ble (((l.take i).map cc).length + 1) 1073741824 = true := by rw [ht, Nat.ble_eq]; omega
      have hs : (l.take i).map cc ++ [cc (l.getD i (0, 0))] = (l.take (i + 1)).map cc := by
        rw [List.take_succ_eq_append_getElem hi, List.map_append, List.getD_eq_getElem?_getD, List.getElem?_eq_getElem hi]; rfl
      rw [hv, t1, t2, a1, a2, a3, a4]
      simp only [List.length_singleton, b1, Nat.beq_refl, Bool.and_true]
      rw [show ((cc (l.getD i (0, 0))).1, (cc (l.getD i (0, 0))).2) = cc (l.getD i (0, 0)) from rfl, hs]
      rfl)
    (by
      simp only [st_impl_readTexts_complex64_k_0]
      have hm : (l.map tc).length = l.length := List.length_map _
      have a1 : decide ((l.length : Int) < ((l.map tc).length : Int)) = false := df (by rw [hm]; omega)
      rw [a1, List.take_length]
      simp only [Nat.beq_refl, Bool.and_true]
      rfl)

theorem cread_back (l : List (Nat × Nat)) (hl : l.length ≤ 256) (hx : ∀ x ∈ l, Two x) :
    p_impl_ComplexText R l = (p_impl_joinTexts_complex64 R l, true) ∧ r_impl_ComplexText R l = true ∧ p_impl_ReadComplex R (p_impl_joinTexts_complex64 R l) = (l.map cc, true) ∧
    r_impl_ReadComplex R (p_impl_joinTexts_complex64 R l) = true := by
  have hi : p_impl_isList_complex64 R l = true := by
    unfold p_impl_isList_complex64; exact dt (by omega)
  have e0 : l.map tc = cwords l l.length := by unfold cwords; rw [List.take_length]
  rcases Nat.eq_zero_or_pos l.length with h0 | h0
  · have := List.eq_nil_of_length_eq_zero h0
    subst this
    have e : p_impl_joinTexts_complex64 R [] = ByteArray.mk #[110, 111, 110, 101] := rfl
    rw [e]
    unfold p_impl_ReadComplex r_impl_ReadComplex c0_impl_ReadComplex p_impl_readTexts_complex64_k r_impl_readTexts_complex64_k
    rw [toList_beq]
    exact ⟨rfl, rfl, rfl, rfl⟩
  · have hne : ((l.length : Int) == 0) = false := by
      have : ¬ (l.length : Int) = 0 := by omega
      simpa using this
    have hws : ((l.map tc).map (·.data.toList)) ≠ [] := by
      intro h; simp at h; rw [h] at h0; cases h0
    have h8 : ∀ w ∈ (l.map tc).map (·.data.toList), w.length = 16 := by
      intro w hw
      simp at hw
      obtain ⟨a, b, _, rfl⟩ := hw
      exact tc_size (a, b)
    have hlen := join_len 16 44 _ hws h8
    rw [List.length_map, List.length_map] at hlen
    have ht : p_impl_joinTexts_complex64 R l = ofL (Lib.join ((l.map tc).map (·.data.toList)) [44]) := by
      unfold p_impl_joinTexts_complex64
      rw [hne, cjoin_run l (by omega) hx, e0]; rfl
    have hr : r_impl_joinTexts_complex64 R l = true := by
      unfold r_impl_joinTexts_complex64 r_strings_Join
      rw [hne, cjoin_run l (by omega) hx, ← e0]
      simp only [Option.isSome_some, Option.getD_some, Nat.beq_refl, Bool.and_true, Bool.true_and, cond_false]
      rw [dt (show (l.map tc).length ≤ 1000000000 by rw [List.length_map]; omega)]
      rw [dt (show (Lib.join ((l.map tc).map (·.data.toList)) (ByteArray.mk #[44]).data.toList).length ≤ 1000000000 by
        have e : (ByteArray.mk #[44]).data.toList = [44] := rfl
        rw [e]; omega)]
      rfl
    have hsz : (p_impl_joinTexts_complex64 R l).size = 17 * l.length - 1 := by
      rw [ht]
      show (Lib.join ((l.map tc).map (·.data.toList)) [44]).toArray.size = _
      rw [List.size_toArray]; omega
    have hsp : p_strings_Split R (p_impl_joinTexts_complex64 R l) (ByteArray.mk #[44]) = l.map tc := by
      have h1 := split_cut (p_impl_joinTexts_complex64 R l) 44
      refine Eq.trans h1 ?_
      rw [ht]
      have : (ofL (Lib.join ((l.map tc).map (·.data.toList)) [44])).data.toList = Lib.join ((l.map tc).map (·.data.toList)) [44] := rfl
      rw [this, cutG_join 44 _ hws (fun w hw => by
        simp at hw
        obtain ⟨a, b, _, rfl⟩ := hw
        exact tc_free (a, b))]
      rw [List.map_map, List.map_map]
      exact List.map_congr_left fun x _ => rfl
    have hrs : r_strings_Split R (p_impl_joinTexts_complex64 R l) (ByteArray.mk #[44]) = true := by
      unfold r_strings_Split
      rw [dt (show (p_impl_joinTexts_complex64 R l).size < 4294967281 by omega)]; rfl
    have hnone : ((p_impl_joinTexts_complex64 R l).toList == (ByteArray.mk #[110, 111, 110, 101]).toList) = false := by
      cases hb : ((p_impl_joinTexts_complex64 R l).toList == (ByteArray.mk #[110, 111, 110, 101]).toList)
      · rfl
      · have := eq_of_beq hb
        rw [ByteArray.toList_eq, ByteArray.toList_eq] at this
        have h4 : (p_impl_joinTexts_complex64 R l).data.toList.length = 4 := by rw [this]; rfl
        have h5 : (p_impl_joinTexts_complex64 R l).data.toList.length = 17 * l.length - 1 := hsz
        omega
    have hc : c1_impl_readTexts_complex64_k R (p_impl_joinTexts_complex64 R l) 256 = some (.inr (l.map cc, [], false, ())) := by
      unfold c1_impl_readTexts_complex64_k c0_impl_readTexts_complex64_k
      rw [hsp]; exact cread_run l hl hx
    have p1 : p_impl_readTexts_complex64_k R (p_impl_joinTexts_complex64 R l) 256 = (l.map cc, true) := by
      unfold p_impl_readTexts_complex64_k
      rw [hnone, hc]; rfl
    have p2 : r_impl_readTexts_complex64_k R (p_impl_joinTexts_complex64 R l) 256 = true := by
      unfold r_impl_readTexts_complex64_k
      rw [hnone, hc, hrs]
      simp only [Nat.beq_refl, Bool.and_true, Bool.true_and, cond_false]
      rfl
    refine ⟨by unfold p_impl_ComplexText; rw [hi]; rfl, by unfold r_impl_ComplexText; rw [hi, hr]; rfl, ?_, ?_⟩
    · unfold p_impl_ReadComplex c0_impl_ReadComplex; rw [p1]
    · unfold r_impl_ReadComplex c0_impl_ReadComplex; rw [p1, p2]
      simp only [Nat.beq_refl, Bool.and_true]

theorem csame_run (l : List (Nat × Nat)) (hl : l.length ≤ 1000000) (hx : ∀ x ∈ l, Two x) : p_laws_b10Same R (l.map cc) l = true ∧ r_laws_b10Same R (l.map cc) l = true := by
  have hm : (l.map cc).length = l.length := List.length_map _
  have hw : c0_laws_b10Same R (l.map cc) l = some (.inr (false, ())) :=
    runW_count (step := fun x => st_laws_b10Same_0 R x.1 x.2.1 x.2.2.1 x.2.2.2.1 x.2.2.2.2.1) (n := l.length) (mk := fun i => (l.map cc, l, ((l.map cc).length : Int), (i : Int), false, ())) (o := .inr (false, ()))
      (fun i hi => by
        simp only [st_laws_b10Same_0]
        rw [wrap_succ (by omega)]
        have a1 : decide ((i : Int) < ((l.map cc).length : Int)) = true := dt (by rw [hm]; omega)
        have a1' : decide ((i : Int) < (l.length : Int)) = true := dt (by omega)
        have a2 : decide (0 ≤ (i : Int)) = true := dt (by omega)
        have hv : (l.map cc).getD ((i : Int)).toNat (0, 0) = cc (l.getD i (0, 0)) := by
          show (l.map cc).getD i (0, 0) = _
          rw [List.getD_eq_getElem?_getD, List.getElem?_map, List.getD_eq_getElem?_getD, List.getElem?_eq_getElem hi]; rfl
        have hv2 : l.getD ((i : Int)).toNat (0, 0) = l.getD i (0, 0) := rfl
        have ht := getD_two hi hx
        rw [hv, hv2]
        generalize l.getD i (0, 0) = x at ht
        have s1 : p_spec_l01Same R (cc x).1 x.1 = true := by
          have : p_spec_SameNumber R (cc x).1 x.1 = true := by
            show p_spec_SameNumber R (cn .f32 (bw x.1)) x.1 = true
            rw [same_bw (cn_lt _ (bits_eq _ ht.1).2.2) ht.1]
            exact dt (bw_cn x.1)
          exact this
        have s2 : p_spec_l01Same R (cc x).2 x.2 = true := by
          have : p_spec_SameNumber R (cc x).2 x.2 = true := by
            show p_spec_SameNumber R (cn .f32 (bw x.2)) x.2 = true
            rw [same_bw (cn_lt _ (bits_eq _ ht.2).2.2) ht.2]
            exact dt (bw_cn x.2)
          exact this
        have q : ∀ a b, r_spec_l01Same R a b = true := fun a b => by
          have := r_same a b
          unfold r_spec_SameNumber at this
          rw [Bool.and_true] at this; exact this
        have hp : p_spec_SameComplex R (cc x).1 (cc x).2 x.1 x.2 = true := by
          unfold p_spec_SameComplex p_spec_l01CSame; rw [s1, s2]; rfl
        have hr : r_spec_SameComplex R (cc x).1 (cc x).2 x.1 x.2 = true := by
          unfold r_spec_SameComplex r_spec_l01CSame; rw [s1, q, q]; rfl
        rw [hp, hr, a1, a1', a2]
        rfl)
      (by
        simp only [st_laws_b10Same_0]
        have a1 : decide ((l.length : Int) < ((l.map cc).length : Int)) = false := df (by rw [hm]; omega)
        rw [a1]; rfl)
  have hb : (((l.map cc).length : Int) != (l.length : Int)) = false := by rw [hm]; simp
  unfold p_laws_b10Same r_laws_b10Same
  rw [hw, hb]
  exact ⟨rfl, rfl⟩
end Go.Dv
