/- Rounds of loops, from one to all; contracts by other words. -/
/- Printed by gen2.py. -/
/- Qt, Qd: merged by merge.py. -/
/- The plain law of texts of numbers: eight digits of a word. -/
/- Ym, Yh: merged by merge.py. -/
import Derived.Test.YtggaemodkekeeaaDt
import Derived.Test.YtggaemodkekeeaaChecked
import Derived.KernelRfl
import Derived.Test.YtggaemodkekeeaaGz
import Derived.Laws.Bits64b
import Derived.Test.YtggaemodkekeeaaWa
import Derived.Test.YtggaemodkekeeaaQc

namespace Go.Dv
open Go.Cv

section
variable {V O : Type} {step : V → Option (V ⊕ O)}

theorem runW_on {x y : V} (h : step x = some (.inl y)) : runW step x = runW step y := by rw [runW_eq, h]
theorem runW_out {x : V} {o : O} (h : step x = some (.inr o)) : runW step x = some o := by rw [runW_eq, h]

/-- a loop that counts -/
theorem runW_count {n : Nat} {mk : Nat → V} {o : O} (hs : ∀ i, i < n → step (mk i) = some (.inl (mk (i + 1)))) (he : step (mk n) = some (.inr o)) : runW step (mk 0) = some o := by
  have : ∀ k i, i + k = n → runW step (mk i) = some o := by
    intro k
    induction k with
    | zero => intro i h; obtain rfl : i = n := by omega
              exact runW_out he
    | succ k ih => intro i h; rw [runW_on (hs i (by omega))]; exact ih (i + 1) (by omega)
  exact this n 0 (by omega)

/-- a loop that looks for a first one -/
theorem runW_scan {n : Nat} {test : Nat → Bool} {mk : Nat → V} {oT : O} {oF : Nat → O} (hs : ∀ i, i < n → step (mk i) = bif test i then some (.inl (mk (i + 1))) else some (.inr (oF i))) (he : step (mk n) = some (.inr oT)) :
    ((∀ i, i < n → test i = true) ∧ runW step (mk 0) = some oT) ∨ ∃ j, j < n ∧ test j = false ∧ runW step (mk 0) = some (oF j) := by
  have : ∀ k i, i + k = n → ((∀ j, i ≤ j → j < n → test j = true) ∧ runW step (mk i) = some oT) ∨ ∃ j, i ≤ j ∧ j < n ∧ test j = false ∧ runW step (mk i) = some (oF j) := by
    intro k
    induction k with
    | zero => intro i h; obtain rfl : i = n := by omega
              exact .inl ⟨fun j h1 h2 => by omega, runW_out he⟩
    | succ k ih =>
      intro i h
      have h1 := hs i (by omega)
      cases ht : test i
      · rw [ht] at h1
        exact .inr ⟨i, Nat.le_refl _, by omega, ht, runW_out h1⟩
      · rw [ht] at h1
        rw [runW_on h1]
        rcases ih (i + 1) (by omega) with ⟨h2, h3⟩ | ⟨j, h2, h3, h4, h5⟩
        · exact .inl ⟨fun j h4 h5 => by
            rcases Nat.eq_or_lt_of_le h4 with rfl | h6
            · exact ht
            · exact h2 j h6 h5, h3⟩
        · exact .inr ⟨j, by omega, h3, h4, h5⟩
  rcases this n 0 (by omega) with ⟨h1, h2⟩ | ⟨j, _, h1, h2, h3⟩
  · exact .inl ⟨fun i hi => h1 i (by omega) hi, h2⟩
  · exact .inr ⟨j, h1, h2, h3⟩
end

theorem wrap_small {i : Int} (h0 : -9223372036854775808 ≤ i) (h1 : i < 9223372036854775808) : IntKind.i64.wrap i = i := by
  unfold IntKind.wrap
  have e1 : (IntKind.i64.bits) = 64 := rfl
  simp [IntKind.signed, e1]
  omega
theorem wrap_succ {i : Nat} (h : i < 2 ^ 62) : IntKind.i64.wrap ((i : Int) + 1) = ((i + 1 : Nat) : Int) := by
  rw [wrap_small (by omega) (by omega)]; omega

theorem getD_lt {α : Type} {l : List α} {i : Nat} {d : α} (h : i < l.length) : l.getD i d = l[i] := by simp [List.getD, h]

theorem all_iff {α : Type} {l : List α} {t : α → Bool} : (∀ i, (h : i < l.length) → t l[i] = true) ↔ l.all t = true := by
  rw [List.all_eq_true]
  constructor
  · intro h x hx
    obtain ⟨i, hi, rfl⟩ := List.mem_iff_getElem.1 hx
    exact h i hi
  · intro h i hi
    exact h _ (List.getElem_mem hi)

/-- a contract by other words -/
theorem ok_words {P : Program} {f : FuncId} {sig ra : AS} {pre pre' : sig.Ty → Bool} {p p' : sig.Ty → ra.Ty × List CS} (h : OkFn P f (mkSpec sig ra pre p)) (hw : ∀ x, pre' x = true → pre x = true ∧ p x = p' x) : OkFn P f (mkSpec sig ra pre' p') := by
  intro hp args r hS hpre
  unfold mkSpec at hS
  split at hS
  rotate_left
  · cases hS
  rename_i x d o k hdec
  cases hc : (nodupB (o.map (·.1)) && d.all (fun q => !memB q.1 (o.map (·.1)))) <;> rw [hc] at hS
  · cases hS
  simp only [cond_true] at hS
  cases hS
  have hpre : (k && pre' x) = true := hpre
  rw [Bool.and_eq_true] at hpre
  obtain ⟨h1, h2⟩ := hw x hpre.2
  have hS' : mkSpec sig ra pre p hp args = some { pre := k && pre x, cv := retCV (encR ra (p x).1 0).1, nw := (encR ra (p x).1 0).2, rd := d ++ o.map (fun q => (q.1, 0, q.2)), wr := zipW o (p x).2 } := by
    unfold mkSpec
    rw [hdec]
    simp only [hc, cond_true]
  obtain ⟨a, b, c, e⟩ := h hp args _ hS' (by show (k && pre x) = true; rw [hpre.1, h1]; rfl)
  rw [h2] at b c e
  refine ⟨a, b, c, fun X g w0 w base vals q1 q2 q3 q4 q5 q6 q7 => ?_⟩
  have h3 := e X g w0 w base vals q1 q2 q3 q4 q5 q6 q7
  have conv : ∀ {g' w'}, Done X w0 g w { pre := k && pre x, cv := retCV (encR ra (p' x).1 0).1, nw := (encR ra (p' x).1 0).2, rd := d ++ o.map (fun q => (q.1, 0, q.2)), wr := zipW o (p' x).2 } base g' w' →
      Done X w0 g w { pre := k && pre' x, cv := retCV (encR ra (p' x).1 0).1, nw := (encR ra (p' x).1 0).2, rd := d ++ o.map (fun q => (q.1, 0, q.2)), wr := zipW o (p' x).2 } base g' w' := fun d => ⟨d.le, d.β, d.top, d.ok, d.size, d.same, d.wr, d.nw⟩
  unfold CallOk at h3 ⊢
  generalize (callFunc f vals).run P w = z at h3 ⊢
  cases z with
  | halt x w' => exact h3
  | ok n w' =>
    cases n <;> simp only at h3 ⊢ <;> try exact h3
    · obtain ⟨g', h4, h5⟩ := h3; exact ⟨g', conv h4, h5⟩
    · refine h3.mono fun e w'' hh => ?_
      obtain ⟨v, he, g', h4, h5⟩ := hh
      exact ⟨v, he, g', conv h4, h5⟩

end Go.Dv


set_option linter.unusedVariables false
set_option linter.unusedSimpArgs false

-- GENERATED BELOW (gen.py)
namespace Go.Dv
open Go.Cv
noncomputable section
def F_impl_ArePlaces_w (r : Bool) : AS.Ty (.cons (.one .bool) .nil) × List CS := ((r, ()), [])
def p_impl_ArePlaces_w (M : FOps) (a0 : (List (Nat × Nat))) : Bool :=
  (bif p_impl_within M (p_impl_length_impl_Place M a0) 1 64 then a0.all fun x => p_impl_ValidPlace M x.1 x.2 else false)
def r_impl_ArePlaces_w (M : FOps) (a0 : (List (Nat × Nat))) : Bool :=
  (bif p_impl_within M (p_impl_length_impl_Place M a0) 1 64 then ((decide (a0.length < 4611686018427387904)) && true) else true)
def S_impl_ArePlaces_w (M : FOps) : FSpec := mkSpec (.cons (.one (.ls (.pair (.fl .f32) (.fl .f32)))) .nil) (.cons (.one .bool) .nil) (fun x => r_impl_ArePlaces_w M x.1) (fun x => F_impl_ArePlaces_w (p_impl_ArePlaces_w M x.1))

end
end Go.Dv


/- The laws' own functions on lists of places, as plain functions. -/
namespace Go.Dv
open Go.Cv
noncomputable section

def S_laws_toPlaceS (_ : FOps) : FSpec := mkSpec (.cons (.one (.ls shPlace)) .nil) (.cons (.one (.ls shPlace)) .nil) (fun x => decide (x.1.length ≤ 1073741824)) (fun x => ((x.1, ()), []))
def p_laws_eqPlaceS (M : FOps) (a b : List (Nat × Nat)) : Bool := decide ((a.length : Int) = (b.length : Int)) && (List.range a.length).all fun i => p_laws_eqPlace M (a.getD i (0, 0)).1 (a.getD i (0, 0)).2 (b.getD i (0, 0)).1 (b.getD i (0, 0)).2
def S_laws_eqPlaceS (M : FOps) : FSpec := mkSpec (.cons (.one (.ls shPlace)) (.cons (.one (.ls shPlace)) .nil)) (.cons (.one .bool) .nil) (fun x => decide (x.1.length < 2 ^ 62)) (fun x => ((p_laws_eqPlaceS M x.1 x.2.1, ()), []))
end
end Go.Dv

/- The bits of a float32. -/
namespace Go.Dv
open Go.RowKit Go.Cv

end Go.Dv


set_option linter.unusedVariables false
set_option linter.unusedSimpArgs false

-- GENERATED BELOW (gen.py)
namespace Go.Dv
open Go.Cv
noncomputable section
def F_laws_szPlaceS (r : Int) : AS.Ty (.cons (.one (.int .i64)) .nil) × List CS := ((r, ()), [])
def p_laws_szPlaceS (M : FOps) (a0 : (List (Nat × Nat))) (a1 : Int) : Int :=
  (bif decide (IntKind.i64.wrap (a1 - (↑a0.length : Int)) < 0) then Int.negSucc 0 else IntKind.i64.wrap (a1 - (↑a0.length : Int)))
def S_laws_szPlaceS (M : FOps) : FSpec := mkSpec (.cons (.one (.ls (.pair (.fl .f32) (.fl .f32)))) (.cons (.one (.int .i64)) .nil)) (.cons (.one (.int .i64)) .nil) (fun _ => true) (fun x => F_laws_szPlaceS (p_laws_szPlaceS M x.1 x.2.1))

end
end Go.Dv


set_option linter.unusedSimpArgs false
namespace Go.Dv
open Go.Cv

/-! ### bytes -/
/-- the digits -/
def D16 : ByteArray := { data := #[48, 49, 50, 51, 52, 53, 54, 55, 56, 57, 97, 98, 99, 100, 101, 102] }
def hd (n : Nat) : Int := p_byteAt D16 (n : Int)
/-- a word's eight digits -/
def hex8 (b : Nat) : List Int := [hd (b / 268435456 % 16), hd (b / 16777216 % 16), hd (b / 1048576 % 16), hd (b / 65536 % 16), hd (b / 4096 % 16), hd (b / 256 % 16), hd (b / 16 % 16), hd (b % 16)]
theorem dt {p : Prop} [Decidable p] (h : p) : decide p = true := decide_eq_true h
theorem df {p : Prop} [Decidable p] (h : ¬ p) : decide p = false := decide_eq_false h

end Go.Dv


/- The contracts of Go's package math over this translation. -/
namespace Go.Proofs.Ytggaemodkekeeaa
open Go.Cv Go.Dv Go.RowKit

theorem follows : Try.prog.follows .mixedOrders = true := by kernel_rfl

theorem ok_sqrt : OkFn Try.prog 111 (un64 fsqrt) := okSqrt (fun _ _ => by kernel_rfl)
theorem ok_archFloor : OkFn Try.prog 70 (un64 (ffloor .down)) := okFloor (name := "math.archFloor") (fun _ _ => by kernel_rfl)
theorem ok_archTrunc : OkFn Try.prog 112 (un64 (ffloor .zero)) := okFloor (name := "math.archTrunc") (fun _ _ => by kernel_rfl)
theorem ok_frombits : OkFn Try.prog 109 sFrombits := okFrombits (fun _ _ => by kernel_rfl)

theorem ok_xbits : OkFn Try.prog 110 xBits := okxBits (fun _ _ => by kernel_rfl)
theorem ok_xfrombits : OkFn Try.prog 109 xFrombits := okxFrombits (fun _ _ => by kernel_rfl)

set_option maxRecDepth 100000 in
theorem abs_run (n : Nat) : cwp R Try.prog (envOf [(110, xBits), (109, xFrombits)]) (lamOf []) 1 (Try.f100.body.getD .skip) 0 (retK Try.prog Try.f100.results.toList sigRaw 0) (initSt sigRaw (.float .f64 n, ())) =
    some (pAbs (.float .f64 n, ())) := by kernel_rfl
theorem ok_xAbs : OkFn Try.prog 100 xAbs :=
  okFn_of (good_cons ok_xbits (good_cons ok_xfrombits good_nil)) follows Try.func100 rfl (by decide) (by decide) lam_nil (m := 1) (fun _ => rfl) (by decide) (fun _ _ h => nomatch h) (fun _ _ h => nomatch h)
    (fun x hx => by
      obtain ⟨v, u⟩ := x
      cases v <;> first | (cases hx; done) | skip
      rename_i k n
      cases k
      · cases hx
      · exact ⟨1, abs_run n⟩)
theorem ok_Abs : OkFn Try.prog 100 (un64 fabs) := okAbs ok_xAbs
end Go.Proofs.Ytggaemodkekeeaa

/- The bits of a float32 (the program's). -/
namespace Go.Proofs.Ytggaemodkekeeaa
open Go Go.Cv Go.Dv
end Go.Proofs.Ytggaemodkekeeaa
