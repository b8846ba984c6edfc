/- What draws a law's inputs: it always answers, and its words are words. -/
import Derived.Test.YtgfplcpjnlignaaDoorWla
import Derived.Test.YtgfplcpjnlignaaDoorWke
import Derived.Test.YtgfplcpjnlignaaDoorQa
import Derived.Test.YtgfplcpjnlignaaDoorLrc
import Derived.Test.YtgfplcpjnlignaaDoorGz

set_option linter.unusedSimpArgs false
set_option linter.unusedVariables false
namespace Go.Dv
open Go.Cv

def By (l : List Int) : Prop := ∀ x ∈ l, 0 ≤ x ∧ x ≤ 255
theorem by_getD {l : List Int} (h : By l) (i : Nat) : 0 ≤ l.getD i 0 ∧ l.getD i 0 ≤ 255 := by
  rw [List.getD_eq_getElem?_getD]
  cases hx : l[i]? with
  | none => simp
  | some x => exact h x (List.mem_of_getElem? hx)

/-- a source that has read n bytes at most -/
def At (l : List Int) (n : Int) (r : List Int × Int × Int) : Prop := r.1 = l ∧ 0 ≤ r.2.1 ∧ r.2.1 ≤ n
theorem At.mono {l : List Int} {n m : Int} {r : List Int × Int × Int} (h : At l n r) (hm : n ≤ m) : At l m r := ⟨h.1, h.2.1, by have := h.2.2; omega⟩

theorem wrapU64_in (i : Int) : 0 ≤ IntKind.u64.wrap i ∧ IntKind.u64.wrap i < 18446744073709551616 := by
  unfold IntKind.wrap
  have e1 : (IntKind.u64.bits) = 64 := rfl
  simp [IntKind.signed, e1]
  omega
theorem band255 {i : Int} (h0 : 0 ≤ i) (h1 : i < 18446744073709551616) : 0 ≤ bits BinOp.and .u64 i 255 ∧ bits BinOp.and .u64 i 255 ≤ 255 := by
  obtain ⟨n, rfl⟩ := Int.eq_ofNat_of_zero_le h0
  have e : bits BinOp.and .u64 (n : Int) ((255 : Nat) : Int) = ((n &&& 255 : Nat) : Int) := bits_and_u64_nat n 255 (by omega) (by omega)
  have e' : bits BinOp.and .u64 (n : Int) 255 = ((n &&& 255 : Nat) : Int) := e
  rw [e']
  have : n &&& 255 ≤ 255 := Nat.and_le_right
  omega
theorem seed_in (i : Int) : 0 ≤ IntKind.i64.wrap (bits BinOp.and .u64 (IntKind.u64.wrap i / Int.ofNat 1099511627776) 255) ∧ IntKind.i64.wrap (bits BinOp.and .u64 (IntKind.u64.wrap i / Int.ofNat 1099511627776) 255) ≤ 255 := by
  obtain ⟨h0, h1⟩ := wrapU64_in i
  have e : Int.ofNat 1099511627776 = 1099511627776 := rfl
  rw [e]
  obtain ⟨h2, h3⟩ := band255 (i := IntKind.u64.wrap i / 1099511627776) (by omega) (by omega)
  rw [wrap_small (by omega) (by omega)]
  exact ⟨h2, h3⟩

theorem next_ok {l : List Int} {n : Int} {r : List Int × Int × Int} (hb : By l) (h : At l n r) (hn : n ≤ 1000000000000) :
    r_spec_l00Src_next R r.1 r.2.1 r.2.2 = true ∧ (0 ≤ (p_spec_l00Src_next R r.1 r.2.1 r.2.2).1 ∧ (p_spec_l00Src_next R r.1 r.2.1 r.2.2).1 ≤ 255) ∧ At l (n + 1) (p_spec_l00Src_next R r.1 r.2.1 r.2.2).2 := by
  obtain ⟨l', at', sd⟩ := r
  obtain ⟨h1, h2, h3⟩ := h
  have h1 : l' = l := h1
  have h2 : 0 ≤ at' := h2
  have h3 : at' ≤ n := h3
  subst h1
  have hb1 := by_getD hb at'.toNat
  unfold r_spec_l00Src_next p_spec_l00Src_next
  have ew : IntKind.i64.wrap (at' + 1) = at' + 1 := wrap_small (by omega) (by omega)
  have ex : IntKind.i64.wrap (l'.getD at'.toNat 0) = l'.getD at'.toNat 0 := wrap_small (by omega) (by omega)
  simp only [ew, ex]
  by_cases c1 : at' < (l'.length : Int)
  · simp only [decide_eq_true c1, decide_eq_true h2, cond_true, Bool.and_true, true_and]
    by_cases c2 : at' + 1 ≤ (l'.length : Int)
    · simp only [decide_eq_true c2, cond_true]
      exact ⟨hb1, rfl, by show 0 ≤ at' + 1; omega, by show at' + 1 ≤ n + 1; omega⟩
    · simp only [decide_eq_false c2, cond_false]
      exact ⟨seed_in _, rfl, by show 0 ≤ at' + 1; omega, by show at' + 1 ≤ n + 1; omega⟩
  · simp only [decide_eq_false c1, cond_false, true_and]
    by_cases c2 : at' + 1 ≤ (l'.length : Int)
    · simp only [decide_eq_true c2, cond_true]
      exact ⟨by decide, rfl, by show 0 ≤ at' + 1; omega, by show at' + 1 ≤ n + 1; omega⟩
    · simp only [decide_eq_false c2, cond_false]
      exact ⟨seed_in _, rfl, by show 0 ≤ at' + 1; omega, by show at' + 1 ≤ n + 1; omega⟩

theorem tmod_in {x k : Int} (hx : 0 ≤ x) (hk : 0 < k) : 0 ≤ x.tmod k ∧ x.tmod k < k := ⟨Int.tmod_nonneg _ hx, Int.tmod_lt_of_pos _ hk⟩

theorem pick_ok {l : List Int} {n : Int} {r : List Int × Int × Int} (hb : By l) (h : At l n r) (hn : n ≤ 100000000000) (k : Int) :
    r_spec_l00Src_pick R r.1 r.2.1 r.2.2 k = true ∧ (0 ≤ (p_spec_l00Src_pick R r.1 r.2.1 r.2.2 k).1 ∧ (1 ≤ k → (p_spec_l00Src_pick R r.1 r.2.1 r.2.2 k).1 < k)) ∧ At l (n + 2) (p_spec_l00Src_pick R r.1 r.2.1 r.2.2 k).2 := by
  unfold r_spec_l00Src_pick p_spec_l00Src_pick
  by_cases c1 : k ≤ 1
  · simp only [decide_eq_true c1, cond_true, true_and]
    exact ⟨⟨by decide, fun _ => by show (0 : Int) < k; omega⟩, h.mono (by omega)⟩
  · have hk0 : (k == 0) = false := by simp; omega
    have e1 : c0_spec_l00Src_pick R r.1 r.2.1 r.2.2 k = p_spec_l00Src_next R r.1 r.2.1 r.2.2 := rfl
    have a1 := next_ok hb h (by omega)
    have a2 := next_ok hb a1.2.2 (by omega)
    have e2 : c1_spec_l00Src_pick R r.1 r.2.1 r.2.2 k = p_spec_l00Src_next R (p_spec_l00Src_next R r.1 r.2.1 r.2.2).2.1 (p_spec_l00Src_next R r.1 r.2.1 r.2.2).2.2.1 (p_spec_l00Src_next R r.1 r.2.1 r.2.2).2.2.2 := rfl
    simp only [decide_eq_false c1, cond_false, e1, e2, a1.1, a2.1, Bool.true_and, hk0, Bool.not_false, Bool.and_true]
    by_cases c2 : k > 200
    · simp only [decide_eq_true c2, cond_true, true_and]
      refine ⟨?_, a2.2.2.mono (by omega)⟩
      have b1 := a1.2.1
      have b2 := a2.2.1
      rw [wrap_small (i := (p_spec_l00Src_next R r.1 r.2.1 r.2.2).1 * 256) (by omega) (by omega), wrap_small (by omega) (by omega)]
      have := tmod_in (x := (p_spec_l00Src_next R r.1 r.2.1 r.2.2).1 * 256 + (p_spec_l00Src_next R (p_spec_l00Src_next R r.1 r.2.1 r.2.2).2.1 (p_spec_l00Src_next R r.1 r.2.1 r.2.2).2.2.1 (p_spec_l00Src_next R r.1 r.2.1 r.2.2).2.2.2).1) (k := k) (by omega) (by omega)
      exact ⟨this.1, fun _ => this.2⟩
    · simp only [decide_eq_false c2, cond_false, true_and]
      have := tmod_in (x := (p_spec_l00Src_next R r.1 r.2.1 r.2.2).1) (k := k) a1.2.1.1 (by omega)
      exact ⟨⟨this.1, fun _ => this.2⟩, a1.2.2.mono (by omega)⟩

end Go.Dv
