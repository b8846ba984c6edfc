/- What draws a law's inputs: it always answers, and its words are words. -/
import Derived.Test.YtjohfkfpfjdceaaGreatDoorWlb
import Derived.Test.YtjohfkfpfjdceaaGreatDoorLrc
import Derived.Test.YtjohfkfpfjdceaaGreatDoorGz

set_option linter.unusedSimpArgs false
set_option linter.unusedVariables false
namespace Go.Dv
open Go.Cv

def By (l : List Int) : Prop := ∀ x ∈ l, 0 ≤ x ∧ x ≤ 255
theorem by_getD {l : List Int} (h : By l) (i : Nat) : 0 ≤ l.getD i 0 ∧ l.getD i 0 ≤ 255 := by
  rw [List.getD_eq_getElem?_getD]
  cases hx : l[i]? with
  | none => simp
  | some x => exact h x (List.mem_of_getElem? hx)

/-- a source that has read n bytes at most -/
def At (l : List Int) (n : Int) (r : List Int × Int × Int) : Prop := r.1 = l ∧ 0 ≤ r.2.1 ∧ r.2.1 ≤ n
theorem At.mono {l : List Int} {n m : Int} {r : List Int × Int × Int} (h : At l n r) (hm : n ≤ m) : At l m r := ⟨h.1, h.2.1, by have := h.2.2; omega⟩

theorem wrapU64_in (i : Int) : 0 ≤ IntKind.u64.wrap i ∧ IntKind.u64.wrap i < 18446744073709551616 := by
  unfold IntKind.wrap
  have e1 : (IntKind.u64.bits) = 64 := rfl
  simp [IntKind.signed, e1]
  omega
theorem wrapU32_in (i : Int) : 0 ≤ IntKind.u32.wrap i ∧ IntKind.u32.wrap i < 4294967296 := by
  unfold IntKind.wrap
  have e1 : (IntKind.u32.bits) = 32 := rfl
  simp [IntKind.signed, e1]
  omega
theorem band255 {i : Int} (h0 : 0 ≤ i) (h1 : i < 18446744073709551616) : 0 ≤ bits BinOp.and .u64 i 255 ∧ bits BinOp.and .u64 i 255 ≤ 255 := by
  obtain ⟨n, rfl⟩ := Int.eq_ofNat_of_zero_le h0
  have e : bits BinOp.and .u64 (n : Int) ((255 : Nat) : Int) = ((n &&& 255 : Nat) : Int) := bits_and_u64_nat n 255 (by omega) (by omega)
  have e' : bits BinOp.and .u64 (n : Int) 255 = ((n &&& 255 : Nat) : Int) := e
  rw [e']
  have : n &&& 255 ≤ 255 := Nat.and_le_right
  omega
theorem seed_in (i : Int) : 0 ≤ IntKind.i64.wrap (bits BinOp.and .u64 (IntKind.u64.wrap i / Int.ofNat 1099511627776) 255) ∧ IntKind.i64.wrap (bits BinOp.and .u64 (IntKind.u64.wrap i / Int.ofNat 1099511627776) 255) ≤ 255 := by
  obtain ⟨h0, h1⟩ := wrapU64_in i
  have e : Int.ofNat 1099511627776 = 1099511627776 := rfl
  rw [e]
  obtain ⟨h2, h3⟩ := band255 (i := IntKind.u64.wrap i / 1099511627776) (by omega) (by omega)
  rw [wrap_small (by omega) (by omega)]
  exact ⟨h2, h3⟩

theorem next_ok {l : List Int} {n : Int} {r : List Int × Int × Int} (hb : By l) (h : At l n r) (hn : n ≤ 1000000000000) :
    r_spec_l00Src_next R r.1 r.2.1 r.2.2 = true ∧ (0 ≤ (p_spec_l00Src_next R r.1 r.2.1 r.2.2).1 ∧ (p_spec_l00Src_next R r.1 r.2.1 r.2.2).1 ≤ 255) ∧ At l (n + 1) (p_spec_l00Src_next R r.1 r.2.1 r.2.2).2 := by
  obtain ⟨l', at', sd⟩ := r
  obtain ⟨h1, h2, h3⟩ := h
  have h1 : l' = l := h1
  have h2 : 0 ≤ at' := h2
  have h3 : at' ≤ n := h3
  subst h1
  have hb1 := by_getD hb at'.toNat
  unfold r_spec_l00Src_next p_spec_l00Src_next
  have ew : IntKind.i64.wrap (at' + 1) = at' + 1 := wrap_small (by omega) (by omega)
  have ex : IntKind.i64.wrap (l'.getD at'.toNat 0) = l'.getD at'.toNat 0 := wrap_small (by omega) (by omega)
  simp only [ew, ex]
  by_cases c1 : at' < (l'.length : Int)
  · simp only [decide_eq_true c1, decide_eq_true h2, cond_true, Bool.and_true, true_and]
    by_cases c2 : at' + 1 ≤ (l'.length : Int)
    · simp only [decide_eq_true c2, cond_true]
      exact ⟨hb1, rfl, by show 0 ≤ at' + 1; omega, by show at' + 1 ≤ n + 1; omega⟩
    · simp only [decide_eq_false c2, cond_false]
      exact ⟨seed_in _, rfl, by show 0 ≤ at' + 1; omega, by show at' + 1 ≤ n + 1; omega⟩
  · simp only [decide_eq_false c1, cond_false, true_and]
    by_cases c2 : at' + 1 ≤ (l'.length : Int)
    · simp only [decide_eq_true c2, cond_true]
      exact ⟨by decide, rfl, by show 0 ≤ at' + 1; omega, by show at' + 1 ≤ n + 1; omega⟩
    · simp only [decide_eq_false c2, cond_false]
      exact ⟨seed_in _, rfl, by show 0 ≤ at' + 1; omega, by show at' + 1 ≤ n + 1; omega⟩

theorem tmod_in {x k : Int} (hx : 0 ≤ x) (hk : 0 < k) : 0 ≤ x.tmod k ∧ x.tmod k < k := ⟨Int.tmod_nonneg _ hx, Int.tmod_lt_of_pos _ hk⟩

theorem pick_ok {l : List Int} {n : Int} {r : List Int × Int × Int} (hb : By l) (h : At l n r) (hn : n ≤ 100000000000) (k : Int) :
    r_spec_l00Src_pick R r.1 r.2.1 r.2.2 k = true ∧ (0 ≤ (p_spec_l00Src_pick R r.1 r.2.1 r.2.2 k).1 ∧ (1 ≤ k → (p_spec_l00Src_pick R r.1 r.2.1 r.2.2 k).1 < k)) ∧ At l (n + 2) (p_spec_l00Src_pick R r.1 r.2.1 r.2.2 k).2 := by
  unfold r_spec_l00Src_pick p_spec_l00Src_pick
  by_cases c1 : k ≤ 1
  · simp only [decide_eq_true c1, cond_true, true_and]
    exact ⟨⟨by decide, fun _ => by show (0 : Int) < k; omega⟩, h.mono (by omega)⟩
  · have hk0 : (k == 0) = false := by simp; omega
    have e1 : c0_spec_l00Src_pick R r.1 r.2.1 r.2.2 k = p_spec_l00Src_next R r.1 r.2.1 r.2.2 := rfl
    have a1 := next_ok hb h (by omega)
    have a2 := next_ok hb a1.2.2 (by omega)
    have e2 : c1_spec_l00Src_pick R r.1 r.2.1 r.2.2 k = p_spec_l00Src_next R (p_spec_l00Src_next R r.1 r.2.1 r.2.2).2.1 (p_spec_l00Src_next R r.1 r.2.1 r.2.2).2.2.1 (p_spec_l00Src_next R r.1 r.2.1 r.2.2).2.2.2 := rfl
    simp only [decide_eq_false c1, cond_false, e1, e2, a1.1, a2.1, Bool.true_and, hk0, Bool.not_false, Bool.and_true]
    by_cases c2 : k > 200
    · simp only [decide_eq_true c2, cond_true, true_and]
      refine ⟨?_, a2.2.2.mono (by omega)⟩
      have b1 := a1.2.1
      have b2 := a2.2.1
      rw [wrap_small (i := (p_spec_l00Src_next R r.1 r.2.1 r.2.2).1 * 256) (by omega) (by omega), wrap_small (by omega) (by omega)]
      have := tmod_in (x := (p_spec_l00Src_next R r.1 r.2.1 r.2.2).1 * 256 + (p_spec_l00Src_next R (p_spec_l00Src_next R r.1 r.2.1 r.2.2).2.1 (p_spec_l00Src_next R r.1 r.2.1 r.2.2).2.2.1 (p_spec_l00Src_next R r.1 r.2.1 r.2.2).2.2.2).1) (k := k) (by omega) (by omega)
      exact ⟨this.1, fun _ => this.2⟩
    · simp only [decide_eq_false c2, cond_false, true_and]
      have := tmod_in (x := (p_spec_l00Src_next R r.1 r.2.1 r.2.2).1) (k := k) a1.2.1.1 (by omega)
      exact ⟨⟨this.1, fun _ => this.2⟩, a1.2.2.mono (by omega)⟩

theorem one_ok {l : List Int} {n : Int} {r : List Int × Int × Int} (hb : By l) (h : At l n r) (hn : n ≤ 100000000000) (k : Int) :
    r_spec_l00Src_one R r.1 r.2.1 r.2.2 k = true ∧ At l (n + 2) (p_spec_l00Src_one R r.1 r.2.1 r.2.2 k).2 := by
  have a := pick_ok hb h hn k
  exact ⟨by unfold r_spec_l00Src_one; rw [a.1]; rfl, a.2.2⟩

theorem among_ok {l : List Int} {n : Int} {r : List Int × Int × Int} (hb : By l) (h : At l n r) (hn : n ≤ 100000000000) (s : List Int) (hs : 1 ≤ s.length) :
    r_spec_l00Src_among R r.1 r.2.1 r.2.2 s = true ∧ At l (n + 2) (p_spec_l00Src_among R r.1 r.2.1 r.2.2 s).2 := by
  have a := pick_ok hb h hn (s.length : Int)
  have e1 : c0_spec_l00Src_among R r.1 r.2.1 r.2.2 s = p_spec_l00Src_pick R r.1 r.2.1 r.2.2 (s.length : Int) := rfl
  refine ⟨?_, a.2.2⟩
  unfold r_spec_l00Src_among
  rw [e1, a.1, decide_eq_true a.2.1.1, decide_eq_true (a.2.1.2 (by omega))]; rfl

theorem from_ok (n : Int) : r_spec_l01From R n = true ∧ p_spec_l01From R n < 4294967296 := by
  obtain ⟨h0, h1⟩ := wrapU32_in n
  unfold r_spec_l01From p_spec_l01From p_math_Float32frombits
  rw [decide_eq_true h0, decide_eq_true h1]
  exact ⟨rfl, cn_lt _ (by omega)⟩

theorem plain_ok {l : List Int} {n : Int} {r : List Int × Int × Int} (hb : By l) (h : At l n r) (hn : n ≤ 10000000000) :
    r_spec_l01DrawPlain R r.1 r.2.1 r.2.2 = true ∧ (p_spec_l01DrawPlain R r.1 r.2.1 r.2.2).1 < 4294967296 ∧ At l (n + 4) (p_spec_l01DrawPlain R r.1 r.2.1 r.2.2).2 := by
  have e0 : c0_spec_l01DrawPlain R r.1 r.2.1 r.2.2 = p_spec_l00Src_pick R r.1 r.2.1 r.2.2 129 := rfl
  have a0 := pick_ok hb h (by omega) 129
  have a1 := one_ok hb a0.2.2 (by omega) 4
  have e1 : c1_spec_l01DrawPlain R r.1 r.2.1 r.2.2 = p_spec_l00Src_one R (p_spec_l00Src_pick R r.1 r.2.1 r.2.2 129).2.1 (p_spec_l00Src_pick R r.1 r.2.1 r.2.2 129).2.2.1 (p_spec_l00Src_pick R r.1 r.2.1 r.2.2 129).2.2.2 4 := rfl
  unfold r_spec_l01DrawPlain p_spec_l01DrawPlain
  rw [e0, e1, a0.1, a1.1]
  refine ⟨rfl, ?_⟩
  have a2 := a1.2.mono (m := n + 4) (by omega)
  cases (p_spec_l00Src_one R (p_spec_l00Src_pick R r.1 r.2.1 r.2.2 129).2.1 (p_spec_l00Src_pick R r.1 r.2.1 r.2.2 129).2.2.1 (p_spec_l00Src_pick R r.1 r.2.1 r.2.2 129).2.2.2 4).1
  · exact ⟨(cw_bin _ _ _).1, a2⟩
  · exact ⟨(cw_bin _ _ _).1, a2⟩

theorem float_ok {l : List Int} {n : Int} {r : List Int × Int × Int} (hb : By l) (h : At l n r) (hn : n ≤ 1000000000) :
    r_spec_l01DrawFloat R r.1 r.2.1 r.2.2 = true ∧ (p_spec_l01DrawFloat R r.1 r.2.1 r.2.2).1 < 4294967296 ∧ At l (n + 10) (p_spec_l01DrawFloat R r.1 r.2.1 r.2.2).2 := by
  have a0 := one_ok hb h (by omega) 12
  have a1 := plain_ok hb a0.2 (by omega)
  have a2 := pick_ok hb a0.2 (by omega) 4
  have a3 := among_ok hb a2.2.2 (by omega) [0, 2147483648, 2139095040, 4286578688, 2143289344, 1, 2139095039, 8388608, 8388607, 2147483649] (by decide)
  have a4 := pick_ok hb a2.2.2 (by omega) 65536
  have a5 := pick_ok hb a4.2.2 (by omega) 65536
  have a6 := plain_ok hb a2.2.2 (by omega)
  have a7 := among_ok hb a6.2.2 (by omega) [8388608, 2130706432, 1610612736, 536870912] (by decide)
  unfold r_spec_l01DrawFloat p_spec_l01DrawFloat c7_spec_l01DrawFloat c6_spec_l01DrawFloat c5_spec_l01DrawFloat c4_spec_l01DrawFloat c3_spec_l01DrawFloat c2_spec_l01DrawFloat c1_spec_l01DrawFloat c0_spec_l01DrawFloat
  rw [a0.1, a1.1, a2.1, a3.1, a4.1, a5.1, a6.1, a7.1]
  simp only [(from_ok _).1, Bool.and_true, Bool.true_and]
  generalize (p_spec_l00Src_one R r.1 r.2.1 r.2.2 12) = q0 at *
  cases hq : q0.1
  · simp only [hq, Bool.not_false, cond_true, true_and]
    exact ⟨a1.2.1, a1.2.2.mono (by omega)⟩
  · simp only [hq, Bool.not_true, cond_false]
    generalize (p_spec_l00Src_pick R q0.2.1 q0.2.2.1 q0.2.2.2 4) = q1 at *
    cases h0 : (q1.1 == 0)
    · simp only [h0, cond_false]
      cases h1 : (q1.1 == 1)
      · simp only [h1, cond_false]
        cases h2 : (q1.1 == 2)
        · simp only [h2, cond_false, true_and]
          exact ⟨(cw_bin _ _ _).1, a7.2.mono (by omega)⟩
        · simp only [h2, cond_true, true_and]
          exact ⟨(from_ok _).2, a4.2.2.mono (by omega)⟩
      · simp only [h1, cond_true, true_and]
        exact ⟨(from_ok _).2, a5.2.2.mono (by omega)⟩
    · simp only [h0, cond_true, true_and]
      exact ⟨(from_ok _).2, a3.2.mono (by omega)⟩

theorem b10Number_ok {l : List Int} (hb : By l) : r_spec_B10Number R l = true ∧ p_spec_B10Number R l < 4294967296 := by
  have h : At l 0 (p_spec_l00From R l) := ⟨rfl, Int.le_refl _, Int.le_refl _⟩
  have a0 := one_ok hb h (by omega) 2
  have a1 := pick_ok hb a0.2 (by omega) 65536
  have a2 := pick_ok hb a1.2.2 (by omega) 65536
  have a3 := float_ok hb a0.2 (by omega)
  unfold r_spec_B10Number p_spec_B10Number c2_spec_B10Number c1_spec_B10Number c0_spec_B10Number
  rw [a0.1, a1.1, a2.1, a3.1]
  simp only [(from_ok _).1, Bool.and_true, Bool.true_and]
  generalize (p_spec_l00Src_one R (p_spec_l00From R l).1 (p_spec_l00From R l).2.1 (p_spec_l00From R l).2.2 2) = q0 at *
  cases hq : q0.1
  · simp only [hq, cond_false, true_and]
    exact a3.2.1
  · simp only [hq, cond_true, true_and]
    exact (from_ok _).2

end Go.Dv
