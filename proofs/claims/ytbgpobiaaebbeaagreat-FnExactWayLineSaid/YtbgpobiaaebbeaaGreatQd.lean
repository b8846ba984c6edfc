/- Qt, Qd: merged by merge.py. -/
import Derived.Test.YtbgpobiaaebbeaaGreatQc

/- The laws' own functions on lists of places, as plain functions. -/
namespace Go.Dv
open Go.Cv
noncomputable section

end
end Go.Dv

/- The bits of a float32. -/
namespace Go.Dv
open Go.RowKit Go.Cv

def p_math_Float32frombits (_ : FOps) (a0 : Int) : Nat := cn .f32 a0.toNat
def S_math_Float32frombits (M : FOps) : FSpec := fun _ args => match args with
  | [.s (.v (.int .u32 n))] => some { pre := decide (0 ≤ n) && decide (n < 4294967296), cv := fl .f32 (p_math_Float32frombits M n), nw := [], rd := [], wr := [] }
  | _ => none

theorem okFrombits32 {P : Program} {f : FuncId} (hx : ExtRun P f Extern.MathFloatBits.float32frombits) : OkFn P f (S_math_Float32frombits R) := by
  intro hp args r hS hpre
  unfold S_math_Float32frombits at hS
  split at hS
  · rename_i n
    cases hS
    simp only [Bool.and_eq_true, decide_eq_true_eq] at hpre
    obtain ⟨h0, h1⟩ := hpre
    refine ⟨(fun d hd => nomatch hd), (fun d hd => nomatch hd), (fun d hd => nomatch hd), fun X g w0 w base vals hsz hrel _ hok _ _ hfree => ?_⟩
    obtain ⟨u, rfl⟩ := arr_one hsz
    obtain rfl : u = _ := hrel 0 _ u rfl rfl
    unfold CallOk
    rw [hx]
    have e : Extern.MathFloatBits.float32frombits #[.int .u32 n] = pure (.float .f32 n.toNat) := rfl
    rw [e]
    simp only [Sem.run_bind, Result.andThen_ok, Sem.run_pure]
    refine ⟨g, done_same hok hfree 0, n.toNat, rfl, rfl, ?_⟩
    have : lim .f32 = 4294967296 := by decide
    rw [this]; omega
  · cases hS

end Go.Dv
