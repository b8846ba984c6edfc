/- Texts that are cut at a byte: the library's way and the reference's give the same parts. -/
/- Words of hexadecimal digits: the library's reading, and the reference's. -/
/- Numbers that are read: word for word, by the library and by the reference. -/
/- Numbers that are read, list for list: the library's way and the reference's give the same. -/
/- The plain law of FnExactReadPlaces. -/
/- What draws a law's inputs: it always answers, and its words are words. -/
/- Printed by gen2.py. -/
/- The plain law of FnNumbers. -/
import Derived.Test.YtgfplcpjnlignaaDoorZke
import Derived.Test.YtgfplcpjnlignaaDoorYa
import Derived.Test.YtgfplcpjnlignaaDoorZa
import Derived.Test.YtgfplcpjnlignaaDoorLha
import Derived.Test.YtgfplcpjnlignaaDoorLg
import Derived.Test.YtgfplcpjnlignaaDoorZla
import Derived.Test.YtgfplcpjnlignaaDoorZli
import Derived.Test.YtgfplcpjnlignaaDoorDs
import Derived.Test.YtgfplcpjnlignaaDoorWkh
import Derived.Test.YtgfplcpjnlignaaDoorLhd
import Derived.Lib.SplitLaws
import Derived.Lib.IndexBytes

set_option linter.unusedSimpArgs false
namespace Go.Dv
open Go.Cv

def cutG (c : UInt8) : List UInt8 → List UInt8 → List (List UInt8)
  | cur, [] => [cur]
  | cur, b :: r => if b == c then cur :: cutG c [] r else cutG c (cur ++ [b]) r

def ofL (l : List UInt8) : ByteArray := ⟨l.toArray⟩
theorem byteAt_get (s : ByteArray) (i : Nat) (h : i < s.size) : ∃ b, s.data.toList[i]? = some b ∧ p_byteAt s (i : Int) = (b.toNat : Int) := by
  have h1 : i < s.data.toList.length := h
  refine ⟨s.data.toList[i], List.getElem?_eq_getElem h1, ?_⟩
  unfold p_byteAt
  simp [Array.getElem?_eq_getElem (show i < s.data.size from h), h]

end Go.Dv


set_option linter.unusedSimpArgs false
namespace Go.Dv
open Go.Cv

/-- the digit of a byte, as the reference has it; as the library has it -/
def hexv (b : UInt8) : Option Nat := if 48 ≤ b.toNat ∧ b.toNat ≤ 57 then some (b.toNat - 48) else if 97 ≤ b.toNat ∧ b.toNat ≤ 102 then some (b.toNat - 87) else none
def hv : Nat → List UInt8 → Option Nat
  | n, [] => some n
  | n, b :: r => match hexv b with
    | some d => hv (16 * n + d) r
    | none => none
end Go.Dv


set_option linter.unusedSimpArgs false
namespace Go.Dv
open Go.Cv

/-- a word's number -/
noncomputable def gw (w : ByteArray) : Option Nat :=
  if w.size = 8 then (match hv 0 w.data.toList with
    | some n => if bw (cn .f32 n) = n then some (cn .f32 n) else none
    | none => none) else none

end Go.Dv


set_option linter.unusedSimpArgs false
namespace Go.Dv
open Go.Cv

def w0 : ByteArray := ByteArray.mk #[]
noncomputable def mapG : List ByteArray → Option (List Nat)
  | [] => some []
  | w :: r => match gw w with
    | none => none
    | some x => match mapG r with
      | none => none
      | some xs => some (x :: xs)

end Go.Dv


set_option linter.unusedSimpArgs false
namespace Go.Dv
open Go.Cv

/-- the words of a text -/
def wds (s : ByteArray) : List ByteArray := (cutG 44 [] s.data.toList).map ofL
/-- what both read -/
noncomputable def rd (s : ByteArray) : List Nat × Bool :=
  bif s.toList == (ByteArray.mk #[110, 111, 110, 101]).toList then ([], true) else
    match mapG (wds s) with
    | some xs => if (wds s).length ≤ 256 then (xs, true) else ([], false)
    | none => ([], false)
/-! ### numbers by twos -/
/-! ### marks -/
end Go.Dv


set_option linter.unusedSimpArgs false
set_option linter.unusedVariables false
namespace Go.Dv
open Go.Cv

def By (l : List Int) : Prop := ∀ x ∈ l, 0 ≤ x ∧ x ≤ 255
theorem by_getD {l : List Int} (h : By l) (i : Nat) : 0 ≤ l.getD i 0 ∧ l.getD i 0 ≤ 255 := by
  rw [List.getD_eq_getElem?_getD]
  cases hx : l[i]? with
  | none => simp
  | some x => exact h x (List.mem_of_getElem? hx)

/-- a source that has read n bytes at most -/
def At (l : List Int) (n : Int) (r : List Int × Int × Int) : Prop := r.1 = l ∧ 0 ≤ r.2.1 ∧ r.2.1 ≤ n
theorem At.mono {l : List Int} {n m : Int} {r : List Int × Int × Int} (h : At l n r) (hm : n ≤ m) : At l m r := ⟨h.1, h.2.1, by have := h.2.2; omega⟩

theorem wrapU64_in (i : Int) : 0 ≤ IntKind.u64.wrap i ∧ IntKind.u64.wrap i < 18446744073709551616 := by
  unfold IntKind.wrap
  have e1 : (IntKind.u64.bits) = 64 := rfl
  simp [IntKind.signed, e1]
  omega
theorem band255 {i : Int} (h0 : 0 ≤ i) (h1 : i < 18446744073709551616) : 0 ≤ bits BinOp.and .u64 i 255 ∧ bits BinOp.and .u64 i 255 ≤ 255 := by
  obtain ⟨n, rfl⟩ := Int.eq_ofNat_of_zero_le h0
  have e : bits BinOp.and .u64 (n : Int) ((255 : Nat) : Int) = ((n &&& 255 : Nat) : Int) := bits_and_u64_nat n 255 (by omega) (by omega)
  have e' : bits BinOp.and .u64 (n : Int) 255 = ((n &&& 255 : Nat) : Int) := e
  rw [e']
  have : n &&& 255 ≤ 255 := Nat.and_le_right
  omega
theorem seed_in (i : Int) : 0 ≤ IntKind.i64.wrap (bits BinOp.and .u64 (IntKind.u64.wrap i / Int.ofNat 1099511627776) 255) ∧ IntKind.i64.wrap (bits BinOp.and .u64 (IntKind.u64.wrap i / Int.ofNat 1099511627776) 255) ≤ 255 := by
  obtain ⟨h0, h1⟩ := wrapU64_in i
  have e : Int.ofNat 1099511627776 = 1099511627776 := rfl
  rw [e]
  obtain ⟨h2, h3⟩ := band255 (i := IntKind.u64.wrap i / 1099511627776) (by omega) (by omega)
  rw [wrap_small (by omega) (by omega)]
  exact ⟨h2, h3⟩

theorem next_ok {l : List Int} {n : Int} {r : List Int × Int × Int} (hb : By l) (h : At l n r) (hn : n ≤ 1000000000000) :
    r_spec_l00Src_next R r.1 r.2.1 r.2.2 = true ∧ (0 ≤ (p_spec_l00Src_next R r.1 r.2.1 r.2.2).1 ∧ (p_spec_l00Src_next R r.1 r.2.1 r.2.2).1 ≤ 255) ∧ At l (n + 1) (p_spec_l00Src_next R r.1 r.2.1 r.2.2).2 := by
  obtain ⟨l', at', sd⟩ := r
  obtain ⟨h1, h2, h3⟩ := h
  have h1 : l' = l := h1
  have h2 : 0 ≤ at' := h2
  have h3 : at' ≤ n := h3
  subst h1
  have hb1 := by_getD hb at'.toNat
  unfold r_spec_l00Src_next p_spec_l00Src_next
  have ew : IntKind.i64.wrap (at' + 1) = at' + 1 := wrap_small (by omega) (by omega)
  have ex : IntKind.i64.wrap (l'.getD at'.toNat 0) = l'.getD at'.toNat 0 := wrap_small (by omega) (by omega)
  simp only [ew, ex]
  by_cases c1 : at' < (l'.length : Int)
  · simp only [decide_eq_true c1, decide_eq_true h2, cond_true, Bool.and_true, true_and]
    by_cases c2 : at' + 1 ≤ (l'.length : Int)
    · simp only [decide_eq_true c2, cond_true]
      exact ⟨hb1, rfl, by show 0 ≤ at' + 1; omega, by show at' + 1 ≤ n + 1; omega⟩
    · simp only [decide_eq_false c2, cond_false]
      exact ⟨seed_in _, rfl, by show 0 ≤ at' + 1; omega, by show at' + 1 ≤ n + 1; omega⟩
  · simp only [decide_eq_false c1, cond_false, true_and]
    by_cases c2 : at' + 1 ≤ (l'.length : Int)
    · simp only [decide_eq_true c2, cond_true]
      exact ⟨by decide, rfl, by show 0 ≤ at' + 1; omega, by show at' + 1 ≤ n + 1; omega⟩
    · simp only [decide_eq_false c2, cond_false]
      exact ⟨seed_in _, rfl, by show 0 ≤ at' + 1; omega, by show at' + 1 ≤ n + 1; omega⟩

theorem tmod_in {x k : Int} (hx : 0 ≤ x) (hk : 0 < k) : 0 ≤ x.tmod k ∧ x.tmod k < k := ⟨Int.tmod_nonneg _ hx, Int.tmod_lt_of_pos _ hk⟩

theorem pick_ok {l : List Int} {n : Int} {r : List Int × Int × Int} (hb : By l) (h : At l n r) (hn : n ≤ 100000000000) (k : Int) :
    r_spec_l00Src_pick R r.1 r.2.1 r.2.2 k = true ∧ (0 ≤ (p_spec_l00Src_pick R r.1 r.2.1 r.2.2 k).1 ∧ (1 ≤ k → (p_spec_l00Src_pick R r.1 r.2.1 r.2.2 k).1 < k)) ∧ At l (n + 2) (p_spec_l00Src_pick R r.1 r.2.1 r.2.2 k).2 := by
  unfold r_spec_l00Src_pick p_spec_l00Src_pick
  by_cases c1 : k ≤ 1
  · simp only [decide_eq_true c1, cond_true, true_and]
    exact ⟨⟨by decide, fun _ => by show (0 : Int) < k; omega⟩, h.mono (by omega)⟩
  · have hk0 : (k == 0) = false := by simp; omega
    have e1 : c0_spec_l00Src_pick R r.1 r.2.1 r.2.2 k = p_spec_l00Src_next R r.1 r.2.1 r.2.2 := rfl
    have a1 := next_ok hb h (by omega)
    have a2 := next_ok hb a1.2.2 (by omega)
    have e2 : c1_spec_l00Src_pick R r.1 r.2.1 r.2.2 k = p_spec_l00Src_next R (p_spec_l00Src_next R r.1 r.2.1 r.2.2).2.1 (p_spec_l00Src_next R r.1 r.2.1 r.2.2).2.2.1 (p_spec_l00Src_next R r.1 r.2.1 r.2.2).2.2.2 := rfl
    simp only [decide_eq_false c1, cond_false, e1, e2, a1.1, a2.1, Bool.true_and, hk0, Bool.not_false, Bool.and_true]
    by_cases c2 : k > 200
    · simp only [decide_eq_true c2, cond_true, true_and]
      refine ⟨?_, a2.2.2.mono (by omega)⟩
      have b1 := a1.2.1
      have b2 := a2.2.1
      rw [wrap_small (i := (p_spec_l00Src_next R r.1 r.2.1 r.2.2).1 * 256) (by omega) (by omega), wrap_small (by omega) (by omega)]
      have := tmod_in (x := (p_spec_l00Src_next R r.1 r.2.1 r.2.2).1 * 256 + (p_spec_l00Src_next R (p_spec_l00Src_next R r.1 r.2.1 r.2.2).2.1 (p_spec_l00Src_next R r.1 r.2.1 r.2.2).2.2.1 (p_spec_l00Src_next R r.1 r.2.1 r.2.2).2.2.2).1) (k := k) (by omega) (by omega)
      exact ⟨this.1, fun _ => this.2⟩
    · simp only [decide_eq_false c2, cond_false, true_and]
      have := tmod_in (x := (p_spec_l00Src_next R r.1 r.2.1 r.2.2).1) (k := k) a1.2.1.1 (by omega)
      exact ⟨⟨this.1, fun _ => this.2⟩, a1.2.2.mono (by omega)⟩

end Go.Dv


set_option linter.unusedVariables false
set_option linter.unusedSimpArgs false

-- GENERATED BELOW (gen.py)
namespace Go.Dv
open Go.Cv
noncomputable section
def F_laws_b10Long (r : Bool) : AS.Ty (.cons (.one .bool) .nil) × List CS := ((r, ()), [])
def p_laws_b10Long (M : FOps) (a0 : (List Int)) (a1 : (List Int)) : Bool :=
  (bif decide ((↑a0.length : Int) > 1048576) then true else decide ((↑a1.length : Int) > 1048576))
def S_laws_b10Long (M : FOps) : FSpec := mkSpec (.cons (.one (.ls (.int .u8))) (.cons (.one (.ls (.int .u8))) .nil)) (.cons (.one .bool) .nil) (fun _ => true) (fun x => F_laws_b10Long (p_laws_b10Long M x.1 x.2.1))

def F_laws_b10At (r : Int) : AS.Ty (.cons (.one (.int .i64)) .nil) × List CS := ((r, ()), [])
def p_laws_b10At (M : FOps) (a0 : (List Int)) (a1 : Int) (a2 : Int) : Int :=
  (bif decide (a2 ≤ 1) then 0 else (bif decide (a1 < (↑a0.length : Int)) then (IntKind.i64.wrap (a0.getD a1.toNat 0)).tmod a2 else (IntKind.i64.wrap (IntKind.i64.wrap (a1 * 37) + 11)).tmod a2))
def r_laws_b10At (M : FOps) (a0 : (List Int)) (a1 : Int) (a2 : Int) : Bool :=
  (bif decide (a2 ≤ 1) then true else (bif decide (a1 < (↑a0.length : Int)) then ((decide (0 ≤ a1) && decide (a1 < (↑a0.length : Int))) && (!(a2 == 0) && true)) else (!(a2 == 0) && true)))
def S_laws_b10At (M : FOps) : FSpec := mkSpec (.cons (.one (.ls (.int .u8))) (.cons (.one (.int .i64)) (.cons (.one (.int .i64)) .nil))) (.cons (.one (.int .i64)) .nil) (fun x => r_laws_b10At M x.1 x.2.1 x.2.2.1) (fun x => F_laws_b10At (p_laws_b10At M x.1 x.2.1 x.2.2.1))

end
end Go.Dv


set_option linter.unusedSimpArgs false
set_option linter.unusedVariables false
namespace Go.Dv
open Go.Cv Ieee

/-! ### numbers that are flushed -/
/-! ### sums -/
/-! ### texts that are read back -/
theorem at_ok {l : List Int} (hb : By l) (i : Nat) (n : Nat) (hn : 2 ≤ n) (hn2 : n ≤ 1000000) (hi : i ≤ 1000000) : r_laws_b10At R l (i : Int) (n : Int) = true ∧ ∃ k : Nat, k < n ∧ p_laws_b10At R l (i : Int) (n : Int) = (k : Int) := by
  have h1 : decide ((n : Int) ≤ 1) = false := df (by omega)
  have h2 : ((n : Int) == 0) = false := by
    have : ¬ (n : Int) = 0 := by omega
    simpa using this
  unfold r_laws_b10At p_laws_b10At
  rw [h1, h2]
  have key : ∀ x : Int, 0 ≤ x → ∃ k : Nat, k < n ∧ x.tmod (n : Int) = (k : Int) := fun x hx => by
    obtain ⟨t1, t2⟩ := tmod_in (x := x) (k := (n : Int)) hx (by omega)
    exact ⟨(x.tmod (n : Int)).toNat, by omega, by omega⟩
  by_cases h3 : (i : Int) < (l.length : Int)
  · rw [decide_eq_true h3, decide_eq_true (show 0 ≤ (i : Int) by omega)]
    refine ⟨rfl, ?_⟩
    have hg := by_getD hb ((i : Int)).toNat
    have := key (IntKind.i64.wrap (l.getD ((i : Int)).toNat 0)) (by rw [wrap_small (by omega) (by omega)]; exact hg.1)
    exact this
  · rw [decide_eq_false h3]
    refine ⟨rfl, ?_⟩
    have := key (IntKind.i64.wrap (IntKind.i64.wrap ((i : Int) * 37) + 11)) (by rw [wrap_small (i := (i : Int) * 37) (by omega) (by omega), wrap_small (by omega) (by omega)]; omega)
    exact this

end Go.Dv


set_option linter.unusedVariables false
set_option linter.unusedSimpArgs false

-- GENERATED BELOW (gen.py)
namespace Go.Proofs.YtgfplcpjnlignaaDoor
open Go Go.Cv Go.Dv
set_option maxRecDepth 100000 in
theorem e_laws_b10Long (M : FOps) (a0 : (List Int)) (a1 : (List Int)) : cwp M Tryd.prog (envOf []) (lamOf []) 40 (Tryd.f5.body.getD .skip) 0 (retK Tryd.prog Tryd.f5.results.toList (.cons (.one .bool) .nil) 0) (initSt (.cons (.one (.ls (.int .u8))) (.cons (.one (.ls (.int .u8))) .nil)) (a0, (a1, ()))) = some (F_laws_b10Long (p_laws_b10Long M a0 a1)) := 
  Eq.trans (b := (brT (decide ((↑a0.length : Int) > 1048576)) (some (F_laws_b10Long (true))) (some (F_laws_b10Long (decide ((↑a1.length : Int) > 1048576)))))) (by kernel_rfl)
    ((push2 rfl rfl))
theorem ok_laws_b10Long : OkFn Tryd.prog 5 (S_laws_b10Long R) :=
  okFn_of good_nil follows Tryd.func5 rfl (by decide) (by decide) lam_nil (m := 2) (fun _ => rfl) (by decide) (fun _ _ h => nomatch h) (fun _ _ h => nomatch h) (fun x _ => ⟨40, e_laws_b10Long R x.1 x.2.1⟩)

set_option maxRecDepth 100000 in
theorem e_laws_b10At (M : FOps) (a0 : (List Int)) (a1 : Int) (a2 : Int) (h : r_laws_b10At M a0 a1 a2 = true) : cwp M Tryd.prog (envOf []) (lamOf []) 40 (Tryd.f13.body.getD .skip) 0 (retK Tryd.prog Tryd.f13.results.toList (.cons (.one (.int .i64)) .nil) 0) (initSt (.cons (.one (.ls (.int .u8))) (.cons (.one (.int .i64)) (.cons (.one (.int .i64)) .nil))) (a0, (a1, (a2, ())))) = some (F_laws_b10At (p_laws_b10At M a0 a1 a2)) := 
  Eq.trans (b := (brT (decide (a2 ≤ 1)) (some (F_laws_b10At (0))) (brT (decide (a1 < (↑a0.length : Int))) (brT (decide (0 ≤ a1) && decide (a1 < (↑a0.length : Int))) (brT (a2 == 0) none (some (F_laws_b10At ((IntKind.i64.wrap (a0.getD a1.toNat 0)).tmod a2)))) none) (brT (a2 == 0) none (some (F_laws_b10At ((IntKind.i64.wrap (IntKind.i64.wrap (a1 * 37) + 11)).tmod a2))))))) (by kernel_rfl)
    ((pushR (fun _ => rfl) (pushR (pushL (pushN (fun _ => rfl))) (pushN (fun _ => rfl)))) h)
theorem ok_laws_b10At : OkFn Tryd.prog 13 (S_laws_b10At R) :=
  okFn_of good_nil follows Tryd.func13 rfl (by decide) (by decide) lam_nil (m := 3) (fun _ => rfl) (by decide) (fun _ _ h => nomatch h) (fun _ _ h => nomatch h) (fun x hx => ⟨40, e_laws_b10At R x.1 x.2.1 x.2.2.1 hx⟩)

end Go.Proofs.YtgfplcpjnlignaaDoor
