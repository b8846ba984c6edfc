/- Qt, Qd: merged by merge.py. -/
/- Ym, Yh: merged by merge.py. -/
/- Rounds of loops, from one to all; contracts by other words. -/
/- LogNumber of both texts, for every argument. -/
import Derived.Test.YtjohfkfpfjdceaaGreatDoorGa
import Derived.Test.YtjohfkfpfjdceaaGreatDoorGz
import Derived.Test.YtjohfkfpfjdceaaGreatDoorDt
import Derived.Test.YtjohfkfpfjdceaaGreatDoorChecked
import Derived.KernelRfl

/- The laws' own functions on lists of places, as plain functions. -/
namespace Go.Dv
open Go.Cv
noncomputable section

end
end Go.Dv

/- The bits of a float32. -/
namespace Go.Dv
open Go.RowKit Go.Cv

def p_math_Float32frombits (_ : FOps) (a0 : Int) : Nat := cn .f32 a0.toNat
def S_math_Float32frombits (M : FOps) : FSpec := fun _ args => match args with
  | [.s (.v (.int .u32 n))] => some { pre := decide (0 ≤ n) && decide (n < 4294967296), cv := fl .f32 (p_math_Float32frombits M n), nw := [], rd := [], wr := [] }
  | _ => none

theorem okFrombits32 {P : Program} {f : FuncId} (hx : ExtRun P f Extern.MathFloatBits.float32frombits) : OkFn P f (S_math_Float32frombits R) := by
  intro hp args r hS hpre
  unfold S_math_Float32frombits at hS
  split at hS
  · rename_i n
    cases hS
    simp only [Bool.and_eq_true, decide_eq_true_eq] at hpre
    obtain ⟨h0, h1⟩ := hpre
    refine ⟨(fun d hd => nomatch hd), (fun d hd => nomatch hd), (fun d hd => nomatch hd), fun X g w0 w base vals hsz hrel _ hok _ _ hfree => ?_⟩
    obtain ⟨u, rfl⟩ := arr_one hsz
    obtain rfl : u = _ := hrel 0 _ u rfl rfl
    unfold CallOk
    rw [hx]
    have e : Extern.MathFloatBits.float32frombits #[.int .u32 n] = pure (.float .f32 n.toNat) := rfl
    rw [e]
    simp only [Sem.run_bind, Result.andThen_ok, Sem.run_pure]
    refine ⟨g, done_same hok hfree 0, n.toNat, rfl, rfl, ?_⟩
    have : lim .f32 = 4294967296 := by decide
    rw [this]; omega
  · cases hS

/-- the word of a float32 that is a number -/
def p_math_Float32bits (_ : FOps) (a0 : Nat) : Int := (a0 : Int)
def S_math_Float32bits (M : FOps) : FSpec := fun _ args => match args with
  | [.s (.fl .f32 n)] => some { pre := M.cmp .eql .f32 n n, cv := ex (.int .u32 (p_math_Float32bits M n)), nw := [], rd := [], wr := [] }
  | _ => none

theorem okBits32 {P : Program} {f : FuncId} (hx : ExtRun P f Extern.MathFloatBits.float32bits) : OkFn P f (S_math_Float32bits R) := by
  intro hp args r hS hpre
  unfold S_math_Float32bits at hS
  split at hS
  · rename_i n
    cases hS
    refine ⟨(fun d hd => nomatch hd), (fun d hd => nomatch hd), (fun d hd => nomatch hd), fun X g w0 w base vals hsz hrel _ hok _ _ hfree => ?_⟩
    obtain ⟨u, rfl⟩ := arr_one hsz
    obtain ⟨m, rfl, hm, hl⟩ := hrel 0 _ u rfl rfl
    have hnn : isNan .f32 m = false := by
      cases hn : isNan .f32 m
      · rfl
      · exfalso
        have hnan : isNan .f32 n = true := by rw [← hm, isNan_cn, hn]
        obtain ⟨s, t, e⟩ := nan_read hnan
        have hpre : (fcmp .eql .f32 n n).getD false = true := hpre
        simp only [fcmp, feq, Option.getD_some, Ieee.Format.order] at hpre
        rw [e] at hpre
        cases hpre
    have hmn : m = n := by rw [← hm, cn_of_not hnn]
    subst hmn
    unfold CallOk
    rw [hx]
    have e : Extern.MathFloatBits.float32bits #[.float .f32 m] = pure (.int .u32 (m : Int)) := rfl
    rw [e]
    simp only [Sem.run_bind, Result.andThen_ok, Sem.run_pure]
    exact ⟨g, done_same hok hfree 0, rfl⟩
  · cases hS
end Go.Dv


/- The contracts of Go's package math over this translation. -/
namespace Go.Proofs.YtjohfkfpfjdceaaGreatDoor
open Go.Cv Go.Dv Go.RowKit

theorem follows : Tryz.prog.follows .mixedOrders = true := by kernel_rfl

theorem ok_sqrt : OkFn Tryz.prog 99 (un64 fsqrt) := okSqrt (fun _ _ => by kernel_rfl)
end Go.Proofs.YtjohfkfpfjdceaaGreatDoor

/- The bits of a float32 (the program's). -/
namespace Go.Proofs.YtjohfkfpfjdceaaGreatDoor
open Go Go.Cv Go.Dv
theorem ok_math_Float32frombits : OkFn Tryz.prog 61 (S_math_Float32frombits R) := okFrombits32 (fun _ _ => by kernel_rfl)
theorem ok_math_Float32bits : OkFn Tryz.prog 62 (S_math_Float32bits R) := okBits32 (fun _ _ => by kernel_rfl)
end Go.Proofs.YtjohfkfpfjdceaaGreatDoor


namespace Go.Dv
open Go.Cv

section
variable {V O : Type} {step : V → Option (V ⊕ O)}

theorem runW_on {x y : V} (h : step x = some (.inl y)) : runW step x = runW step y := by rw [runW_eq, h]
theorem runW_out {x : V} {o : O} (h : step x = some (.inr o)) : runW step x = some o := by rw [runW_eq, h]

/-- a loop that counts -/
theorem runW_count {n : Nat} {mk : Nat → V} {o : O} (hs : ∀ i, i < n → step (mk i) = some (.inl (mk (i + 1)))) (he : step (mk n) = some (.inr o)) : runW step (mk 0) = some o := by
  have : ∀ k i, i + k = n → runW step (mk i) = some o := by
    intro k
    induction k with
    | zero => intro i h; obtain rfl : i = n := by omega
              exact runW_out he
    | succ k ih => intro i h; rw [runW_on (hs i (by omega))]; exact ih (i + 1) (by omega)
  exact this n 0 (by omega)

end

theorem wrap_small {i : Int} (h0 : -9223372036854775808 ≤ i) (h1 : i < 9223372036854775808) : IntKind.i64.wrap i = i := by
  unfold IntKind.wrap
  have e1 : (IntKind.i64.bits) = 64 := rfl
  simp [IntKind.signed, e1]
  omega
theorem wrap_succ {i : Nat} (h : i < 2 ^ 62) : IntKind.i64.wrap ((i : Int) + 1) = ((i + 1 : Nat) : Int) := by
  rw [wrap_small (by omega) (by omega)]; omega

theorem getD_lt {α : Type} {l : List α} {i : Nat} {d : α} (h : i < l.length) : l.getD i d = l[i] := by simp [List.getD, h]

end Go.Dv


namespace Go.Dv
open Go.Cv
open Ieee

theorem wid_infw {a : Nat} {s : Bool} (hr : FloatKind.f32.format.read a = .infinity s) : R.wid a = FloatKind.f64.format.write (.infinity s) := by
  have hn : isNan .f32 a = false := by unfold isNan; rw [hr]; rfl
  show (fconv .f32 a .f64).getD 0 = _
  unfold fconv floatToFloatBits FloatKind.decode FloatKind.encode
  rw [hn, hr]
  rfl

/-! ### courses -/
end Go.Dv
