/- Rounds of loops, from one to all; contracts by other words. -/
/- Lists of numbers and of places: what the loops tell in the end. -/
/- Printed by gen2.py. -/
/- The plain law of texts of numbers: eight digits of a word. -/
/- The plain law of texts of numbers and places. -/
import Derived.Test.YtgfplcpjnlignaaDoorZke
import Derived.Test.YtgfplcpjnlignaaDoorYa
import Derived.Test.YtgfplcpjnlignaaDoorZa
import Derived.Test.YtgfplcpjnlignaaDoorLg
import Derived.Laws.Bits64b
import Derived.Test.YtgfplcpjnlignaaDoorDu

namespace Go.Dv
open Go.Cv

section
variable {V O : Type} {step : V → Option (V ⊕ O)}

theorem runW_on {x y : V} (h : step x = some (.inl y)) : runW step x = runW step y := by rw [runW_eq, h]
theorem runW_out {x : V} {o : O} (h : step x = some (.inr o)) : runW step x = some o := by rw [runW_eq, h]

/-- a loop that counts -/
theorem runW_count {n : Nat} {mk : Nat → V} {o : O} (hs : ∀ i, i < n → step (mk i) = some (.inl (mk (i + 1)))) (he : step (mk n) = some (.inr o)) : runW step (mk 0) = some o := by
  have : ∀ k i, i + k = n → runW step (mk i) = some o := by
    intro k
    induction k with
    | zero => intro i h; obtain rfl : i = n := by omega
              exact runW_out he
    | succ k ih => intro i h; rw [runW_on (hs i (by omega))]; exact ih (i + 1) (by omega)
  exact this n 0 (by omega)

/-- a loop that looks for a first one -/
theorem runW_scan {n : Nat} {test : Nat → Bool} {mk : Nat → V} {oT : O} {oF : Nat → O} (hs : ∀ i, i < n → step (mk i) = bif test i then some (.inl (mk (i + 1))) else some (.inr (oF i))) (he : step (mk n) = some (.inr oT)) :
    ((∀ i, i < n → test i = true) ∧ runW step (mk 0) = some oT) ∨ ∃ j, j < n ∧ test j = false ∧ runW step (mk 0) = some (oF j) := by
  have : ∀ k i, i + k = n → ((∀ j, i ≤ j → j < n → test j = true) ∧ runW step (mk i) = some oT) ∨ ∃ j, i ≤ j ∧ j < n ∧ test j = false ∧ runW step (mk i) = some (oF j) := by
    intro k
    induction k with
    | zero => intro i h; obtain rfl : i = n := by omega
              exact .inl ⟨fun j h1 h2 => by omega, runW_out he⟩
    | succ k ih =>
      intro i h
      have h1 := hs i (by omega)
      cases ht : test i
      · rw [ht] at h1
        exact .inr ⟨i, Nat.le_refl _, by omega, ht, runW_out h1⟩
      · rw [ht] at h1
        rw [runW_on h1]
        rcases ih (i + 1) (by omega) with ⟨h2, h3⟩ | ⟨j, h2, h3, h4, h5⟩
        · exact .inl ⟨fun j h4 h5 => by
            rcases Nat.eq_or_lt_of_le h4 with rfl | h6
            · exact ht
            · exact h2 j h6 h5, h3⟩
        · exact .inr ⟨j, by omega, h3, h4, h5⟩
  rcases this n 0 (by omega) with ⟨h1, h2⟩ | ⟨j, _, h1, h2, h3⟩
  · exact .inl ⟨fun i hi => h1 i (by omega) hi, h2⟩
  · exact .inr ⟨j, h1, h2, h3⟩
end

theorem wrap_small {i : Int} (h0 : -9223372036854775808 ≤ i) (h1 : i < 9223372036854775808) : IntKind.i64.wrap i = i := by
  unfold IntKind.wrap
  have e1 : (IntKind.i64.bits) = 64 := rfl
  simp [IntKind.signed, e1]
  omega
theorem wrap_succ {i : Nat} (h : i < 2 ^ 62) : IntKind.i64.wrap ((i : Int) + 1) = ((i + 1 : Nat) : Int) := by
  rw [wrap_small (by omega) (by omega)]; omega

theorem getD_lt {α : Type} {l : List α} {i : Nat} {d : α} (h : i < l.length) : l.getD i d = l[i] := by simp [List.getD, h]

theorem all_iff {α : Type} {l : List α} {t : α → Bool} : (∀ i, (h : i < l.length) → t l[i] = true) ↔ l.all t = true := by
  rw [List.all_eq_true]
  constructor
  · intro h x hx
    obtain ⟨i, hi, rfl⟩ := List.mem_iff_getElem.1 hx
    exact h i hi
  · intro h i hi
    exact h _ (List.getElem_mem hi)

/-- a contract by other words -/
theorem ok_words {P : Program} {f : FuncId} {sig ra : AS} {pre pre' : sig.Ty → Bool} {p p' : sig.Ty → ra.Ty × List CS} (h : OkFn P f (mkSpec sig ra pre p)) (hw : ∀ x, pre' x = true → pre x = true ∧ p x = p' x) : OkFn P f (mkSpec sig ra pre' p') := by
  intro hp args r hS hpre
  unfold mkSpec at hS
  split at hS
  rotate_left
  · cases hS
  rename_i x d o k hdec
  cases hc : (nodupB (o.map (·.1)) && d.all (fun q => !memB q.1 (o.map (·.1)))) <;> rw [hc] at hS
  · cases hS
  simp only [cond_true] at hS
  cases hS
  have hpre : (k && pre' x) = true := hpre
  rw [Bool.and_eq_true] at hpre
  obtain ⟨h1, h2⟩ := hw x hpre.2
  have hS' : mkSpec sig ra pre p hp args = some { pre := k && pre x, cv := retCV (encR ra (p x).1 0).1, nw := (encR ra (p x).1 0).2, rd := d ++ o.map (fun q => (q.1, 0, q.2)), wr := zipW o (p x).2 } := by
    unfold mkSpec
    rw [hdec]
    simp only [hc, cond_true]
  obtain ⟨a, b, c, e⟩ := h hp args _ hS' (by show (k && pre x) = true; rw [hpre.1, h1]; rfl)
  rw [h2] at b c e
  refine ⟨a, b, c, fun X g w0 w base vals q1 q2 q3 q4 q5 q6 q7 => ?_⟩
  have h3 := e X g w0 w base vals q1 q2 q3 q4 q5 q6 q7
  have conv : ∀ {g' w'}, Done X w0 g w { pre := k && pre x, cv := retCV (encR ra (p' x).1 0).1, nw := (encR ra (p' x).1 0).2, rd := d ++ o.map (fun q => (q.1, 0, q.2)), wr := zipW o (p' x).2 } base g' w' →
      Done X w0 g w { pre := k && pre' x, cv := retCV (encR ra (p' x).1 0).1, nw := (encR ra (p' x).1 0).2, rd := d ++ o.map (fun q => (q.1, 0, q.2)), wr := zipW o (p' x).2 } base g' w' := fun d => ⟨d.le, d.β, d.top, d.ok, d.size, d.same, d.wr, d.nw⟩
  unfold CallOk at h3 ⊢
  generalize (callFunc f vals).run P w = z at h3 ⊢
  cases z with
  | halt x w' => exact h3
  | ok n w' =>
    cases n <;> simp only at h3 ⊢ <;> try exact h3
    · obtain ⟨g', h4, h5⟩ := h3; exact ⟨g', conv h4, h5⟩
    · refine h3.mono fun e w'' hh => ?_
      obtain ⟨v, he, g', h4, h5⟩ := hh
      exact ⟨v, he, g', conv h4, h5⟩

end Go.Dv


namespace Go.Dv
open Go.Cv

theorem index_words (l : List (Nat × Nat)) (hl : l.length < 2 ^ 62) : r_slices_IndexFunc_impl_Place_impl_Place R l = true ∧ decide (p_slices_IndexFunc_impl_Place_impl_Place R l ≥ 0) = !validsB R l := by
  have h := runW_scan (step := fun x => st_slices_IndexFunc_impl_Place_impl_Place_0 R x.1 x.2.2.1 x.2.2.2.1 x.2.2.2.2.1) (n := l.length) (test := fun i => p_impl_ValidPlace R (l.getD i (0, 0)).1 (l.getD i (0, 0)).2) (mk := fun i => (l, (), (l.length : Int), (i : Int), 0, ()))
    (oT := .inr (0, ())) (oF := fun i => .inl ((i : Int), ()))
    (fun i hi => by
      simp only [st_slices_IndexFunc_impl_Place_impl_Place_0, Int.toNat_natCast, p_impl_areValid_1]
      have h1 : decide ((i : Int) < (l.length : Int)) = true := by simpa using hi
      have h2 : decide (0 ≤ (i : Int)) = true := by simp
      rw [h1, h2, wrap_succ (by omega)]
      cases p_impl_ValidPlace R (l.getD i (0, 0)).1 (l.getD i (0, 0)).2 <;> rfl)
    (by simp only [st_slices_IndexFunc_impl_Place_impl_Place_0]; simp [brT])
  have e : c0_slices_IndexFunc_impl_Place_impl_Place R l = runW (fun x => st_slices_IndexFunc_impl_Place_impl_Place_0 R x.1 x.2.2.1 x.2.2.2.1 x.2.2.2.2.1) (l, (), (l.length : Int), ((0 : Nat) : Int), 0, ()) := rfl
  unfold r_slices_IndexFunc_impl_Place_impl_Place p_slices_IndexFunc_impl_Place_impl_Place validsB
  rcases h with ⟨h1, h2⟩ | ⟨j, hj, h1, h2⟩
  · rw [e, h2]
    refine ⟨rfl, ?_⟩
    have : l.all (fun x => p_impl_ValidPlace R x.1 x.2) = true := all_iff.1 fun i hi => by
      have := h1 i hi
      rwa [getD_lt hi] at this
    rw [this]; rfl
  · rw [e, h2]
    refine ⟨rfl, ?_⟩
    have hf : l.all (fun x => p_impl_ValidPlace R x.1 x.2) = false := by
      cases ha : l.all (fun x => p_impl_ValidPlace R x.1 x.2)
      · rfl
      · have := all_iff.2 ha j hj
        rw [getD_lt hj] at h1
        rw [h1] at this; cases this
    rw [hf]
    show decide ((j : Int) ≥ 0) = true
    simp

theorem areValid_words (l : List (Nat × Nat)) (hl : l.length < 2 ^ 62) : r_impl_areValid_w R l = true ∧ p_impl_areValid_w R l = validsB R l := by
  obtain ⟨h1, h2⟩ := index_words l hl
  unfold r_impl_areValid_w p_impl_areValid_w r_slices_ContainsFunc_impl_Place_impl_Place p_slices_ContainsFunc_impl_Place_impl_Place
  show ((r_slices_IndexFunc_impl_Place_impl_Place R l && true) && true) = true ∧ (!decide (p_slices_IndexFunc_impl_Place_impl_Place R l ≥ 0)) = validsB R l
  rw [h1, h2]
  exact ⟨rfl, Bool.not_not _⟩

end Go.Dv
namespace Go.Proofs.YtgfplcpjnlignaaDoor
open Go Go.Cv Go.Dv

theorem ok_impl_areValid : OkFn Tryd.prog 77 (S_impl_areValid R) := ok_words ok_impl_areValid_w fun x hx => by
  obtain ⟨h1, h2⟩ := areValid_words x.1 (by simpa using hx)
  exact ⟨h1, by unfold F_impl_areValid_w; rw [h2]⟩
end Go.Proofs.YtgfplcpjnlignaaDoor


set_option linter.unusedVariables false
set_option linter.unusedSimpArgs false

-- GENERATED BELOW (gen.py)
namespace Go.Dv
open Go.Cv
noncomputable section
def F_impl_ArePlaces_w (r : Bool) : AS.Ty (.cons (.one .bool) .nil) × List CS := ((r, ()), [])
def p_impl_ArePlaces_w (M : FOps) (a0 : (List (Nat × Nat))) : Bool :=
  (bif p_impl_within M (p_impl_length_impl_Place M a0) 1 64 then a0.all fun x => p_impl_ValidPlace M x.fst x.snd else false)
def r_impl_ArePlaces_w (M : FOps) (a0 : (List (Nat × Nat))) : Bool :=
  (bif p_impl_within M (p_impl_length_impl_Place M a0) 1 64 then ((decide (a0.length < 4611686018427387904)) && true) else true)
def S_impl_ArePlaces_w (M : FOps) : FSpec := mkSpec (.cons (.one (.ls (.pair (.fl .f32) (.fl .f32)))) .nil) (.cons (.one .bool) .nil) (fun x => r_impl_ArePlaces_w M x.1) (fun x => F_impl_ArePlaces_w (p_impl_ArePlaces_w M x.1))

end
end Go.Dv


set_option linter.unusedVariables false
set_option linter.unusedSimpArgs false

-- GENERATED BELOW (gen.py)
namespace Go.Dv
open Go.Cv
noncomputable section
def F_impl_BitsOf (r : Int) : AS.Ty (.cons (.one (.int .i64)) .nil) × List CS := ((r, ()), [])
def p_impl_BitsOf (M : FOps) (a0 : Nat) : Int :=
  (bif M.cmp BinOp.neq FloatKind.f32 a0 a0 then 2143289344 else IntKind.i64.wrap (p_math_Float32bits M a0))
def r_impl_BitsOf (M : FOps) (a0 : Nat) : Bool :=
  (bif M.cmp BinOp.neq FloatKind.f32 a0 a0 then true else ((M.cmp BinOp.eql FloatKind.f32 a0 a0) && true))
def S_impl_BitsOf (M : FOps) : FSpec := mkSpec (.cons (.one (.fl .f32)) .nil) (.cons (.one (.int .i64)) .nil) (fun x => r_impl_BitsOf M x.1) (fun x => F_impl_BitsOf (p_impl_BitsOf M x.1))

def p_spec_l01Bits (M : FOps) (a0 : Nat) : Int :=
  (bif M.cmp BinOp.neq FloatKind.f32 a0 a0 then 2143289344 else IntKind.i64.wrap (p_math_Float32bits M a0))
def r_spec_l01Bits (M : FOps) (a0 : Nat) : Bool :=
  (bif M.cmp BinOp.neq FloatKind.f32 a0 a0 then true else ((M.cmp BinOp.eql FloatKind.f32 a0 a0) && true))
end
end Go.Dv


set_option linter.unusedSimpArgs false
namespace Go.Dv
open Go.Cv

/-! ### bytes -/
theorem p_bytes_size (a : List Int) : (p_bytes a).size = a.length := by
  show (p_bytes a).data.size = _
  simp [p_bytes]

/-- the digits -/
def D16 : ByteArray := { data := #[48, 49, 50, 51, 52, 53, 54, 55, 56, 57, 97, 98, 99, 100, 101, 102] }
def hd (n : Nat) : Int := p_byteAt D16 (n : Int)
/-- a word's eight digits -/
def hex8 (b : Nat) : List Int := [hd (b / 268435456 % 16), hd (b / 16777216 % 16), hd (b / 1048576 % 16), hd (b / 65536 % 16), hd (b / 4096 % 16), hd (b / 256 % 16), hd (b / 16 % 16), hd (b % 16)]
theorem dt {p : Prop} [Decidable p] (h : p) : decide p = true := decide_eq_true h
theorem df {p : Prop} [Decidable p] (h : ¬ p) : decide p = false := decide_eq_false h

end Go.Dv


set_option linter.unusedSimpArgs false
namespace Go.Dv
open Go.Cv

/-! ### words -/
theorem cmp_neq (k : FloatKind) (a b : Nat) : R.cmp .neq k a b = !R.cmp .eql k a b := by
  show (fcmp .neq k a b).getD false = !(fcmp .eql k a b).getD false
  simp [fcmp]
/-- a number's bits -/
def bw (x : Nat) : Nat := bif R.cmp .eql .f32 x x then x else 2143289344
/-- a number's text -/
def tx (x : Nat) : ByteArray := p_bytes (hex8 (bw x))
theorem hd0 : hd 0 = 48 := by decide
/-! ### joined texts -/
/-! ### texts of places -/
theorem toList_beq (a : ByteArray) : (a.toList == a.toList) = true := by simp
end Go.Dv
