/- Printed by gen2.py. -/
/- Qt, Qd: merged by merge.py. -/
import Derived.Test.YtjohfkfpfjdceaaGreatDoorQb

set_option linter.unusedVariables false
set_option linter.unusedSimpArgs false

-- GENERATED BELOW (gen.py)
namespace Go.Dv
open Go.Cv
noncomputable section
def c0_impl_SineTurns (M : FOps) (a0 : Nat) : Nat := M.wid a0
def c1_impl_SineTurns (M : FOps) (a0 : Nat) : Nat := p_math_NaN M
def c2_impl_SineTurns (M : FOps) (a0 : Nat) : Nat := p_impl_sine M (c0_impl_SineTurns M a0)
def F_impl_SineTurns (r : Nat) : AS.Ty (.cons (.one (.fl .f32)) .nil) × List CS := ((r, ()), [])
def p_impl_SineTurns (M : FOps) (a0 : Nat) : Nat :=
  (bif !p_impl_isFinite M (c0_impl_SineTurns M a0) then M.nar (c1_impl_SineTurns M a0) else (bif M.cmp BinOp.geq FloatKind.f64 (M.abs (c0_impl_SineTurns M a0)) 4841369599423283200 then 0 else M.nar (c2_impl_SineTurns M a0)))
def r_impl_SineTurns (M : FOps) (a0 : Nat) : Bool :=
  (bif !p_impl_isFinite M (c0_impl_SineTurns M a0) then ((M.narOk (c1_impl_SineTurns M a0)) && true) else (bif M.cmp BinOp.geq FloatKind.f64 (M.abs (c0_impl_SineTurns M a0)) 4841369599423283200 then true else ((M.narOk (c2_impl_SineTurns M a0)) && true)))
def S_impl_SineTurns (M : FOps) : FSpec := mkSpec (.cons (.one (.fl .f32)) .nil) (.cons (.one (.fl .f32)) .nil) (fun _ => true) (fun x => F_impl_SineTurns (p_impl_SineTurns M x.1))

end
end Go.Dv


/- The laws' own functions on lists of places, as plain functions. -/
namespace Go.Dv
open Go.Cv
noncomputable section

end
end Go.Dv

/- The bits of a float32. -/
namespace Go.Dv
open Go.RowKit Go.Cv

def p_math_Float32frombits (_ : FOps) (a0 : Int) : Nat := cn .f32 a0.toNat
def S_math_Float32frombits (M : FOps) : FSpec := fun _ args => match args with
  | [.s (.v (.int .u32 n))] => some { pre := decide (0 ≤ n) && decide (n < 4294967296), cv := fl .f32 (p_math_Float32frombits M n), nw := [], rd := [], wr := [] }
  | _ => none

theorem okFrombits32 {P : Program} {f : FuncId} (hx : ExtRun P f Extern.MathFloatBits.float32frombits) : OkFn P f (S_math_Float32frombits R) := by
  intro hp args r hS hpre
  unfold S_math_Float32frombits at hS
  split at hS
  · rename_i n
    cases hS
    simp only [Bool.and_eq_true, decide_eq_true_eq] at hpre
    obtain ⟨h0, h1⟩ := hpre
    refine ⟨(fun d hd => nomatch hd), (fun d hd => nomatch hd), (fun d hd => nomatch hd), fun X g w0 w base vals hsz hrel _ hok _ _ hfree => ?_⟩
    obtain ⟨u, rfl⟩ := arr_one hsz
    obtain rfl : u = _ := hrel 0 _ u rfl rfl
    unfold CallOk
    rw [hx]
    have e : Extern.MathFloatBits.float32frombits #[.int .u32 n] = pure (.float .f32 n.toNat) := rfl
    rw [e]
    simp only [Sem.run_bind, Result.andThen_ok, Sem.run_pure]
    refine ⟨g, done_same hok hfree 0, n.toNat, rfl, rfl, ?_⟩
    have : lim .f32 = 4294967296 := by decide
    rw [this]; omega
  · cases hS

/-- the word of a float32 that is a number -/
def p_math_Float32bits (_ : FOps) (a0 : Nat) : Int := (a0 : Int)
def S_math_Float32bits (M : FOps) : FSpec := fun _ args => match args with
  | [.s (.fl .f32 n)] => some { pre := M.cmp .eql .f32 n n, cv := ex (.int .u32 (p_math_Float32bits M n)), nw := [], rd := [], wr := [] }
  | _ => none

theorem okBits32 {P : Program} {f : FuncId} (hx : ExtRun P f Extern.MathFloatBits.float32bits) : OkFn P f (S_math_Float32bits R) := by
  intro hp args r hS hpre
  unfold S_math_Float32bits at hS
  split at hS
  · rename_i n
    cases hS
    refine ⟨(fun d hd => nomatch hd), (fun d hd => nomatch hd), (fun d hd => nomatch hd), fun X g w0 w base vals hsz hrel _ hok _ _ hfree => ?_⟩
    obtain ⟨u, rfl⟩ := arr_one hsz
    obtain ⟨m, rfl, hm, hl⟩ := hrel 0 _ u rfl rfl
    have hnn : isNan .f32 m = false := by
      cases hn : isNan .f32 m
      · rfl
      · exfalso
        have hnan : isNan .f32 n = true := by rw [← hm, isNan_cn, hn]
        obtain ⟨s, t, e⟩ := nan_read hnan
        have hpre : (fcmp .eql .f32 n n).getD false = true := hpre
        simp only [fcmp, feq, Option.getD_some, Ieee.Format.order] at hpre
        rw [e] at hpre
        cases hpre
    have hmn : m = n := by rw [← hm, cn_of_not hnn]
    subst hmn
    unfold CallOk
    rw [hx]
    have e : Extern.MathFloatBits.float32bits #[.float .f32 m] = pure (.int .u32 (m : Int)) := rfl
    rw [e]
    simp only [Sem.run_bind, Result.andThen_ok, Sem.run_pure]
    exact ⟨g, done_same hok hfree 0, rfl⟩
  · cases hS
end Go.Dv
