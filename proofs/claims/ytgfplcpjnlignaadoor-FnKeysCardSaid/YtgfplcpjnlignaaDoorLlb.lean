/- The plain law of FnNumbers. -/
import Derived.Test.YtgfplcpjnlignaaDoorLla
import Derived.Test.YtgfplcpjnlignaaDoorLre
import Derived.Test.YtgfplcpjnlignaaDoorQa
import Derived.Test.YtgfplcpjnlignaaDoorGa
import Derived.Test.YtgfplcpjnlignaaDoorLo
import Derived.Test.YtgfplcpjnlignaaDoorGz
import Derived.Test.YtgfplcpjnlignaaDoorWlc

set_option linter.unusedSimpArgs false
set_option linter.unusedVariables false
namespace Go.Dv
open Go.Cv Ieee

/-! ### numbers that are flushed -/
theorem sub_zero : p_impl_IsSubnormal R 0 = false ∧ p_impl_IsSubnormal R 2147483648 = false := by
  have h1 : R.cmp BinOp.neq FloatKind.f32 0 0 = false := by decide
  have h2 : R.cmp BinOp.neq FloatKind.f32 2147483648 0 = false := by decide
  unfold p_impl_IsSubnormal
  rw [h1, h2]; exact ⟨rfl, rfl⟩
/-! ### sums -/
/-! ### texts that are read back -/
theorem at_ok {l : List Int} (hb : By l) (i : Nat) (n : Nat) (hn : 2 ≤ n) (hn2 : n ≤ 1000000) (hi : i ≤ 1000000) : r_laws_b10At R l (i : Int) (n : Int) = true ∧ ∃ k : Nat, k < n ∧ p_laws_b10At R l (i : Int) (n : Int) = (k : Int) := by
  have h1 : decide ((n : Int) ≤ 1) = false := df (by omega)
  have h2 : ((n : Int) == 0) = false := by
    have : ¬ (n : Int) = 0 := by omega
    simpa using this
  unfold r_laws_b10At p_laws_b10At
  rw [h1, h2]
  have key : ∀ x : Int, 0 ≤ x → ∃ k : Nat, k < n ∧ x.tmod (n : Int) = (k : Int) := fun x hx => by
    obtain ⟨t1, t2⟩ := tmod_in (x := x) (k := (n : Int)) hx (by omega)
    exact ⟨(x.tmod (n : Int)).toNat, by omega, by omega⟩
  by_cases h3 : (i : Int) < (l.length : Int)
  · rw [decide_eq_true h3, decide_eq_true (show 0 ≤ (i : Int) by omega)]
    refine ⟨rfl, ?_⟩
    have hg := by_getD hb ((i : Int)).toNat
    have := key (IntKind.i64.wrap (l.getD ((i : Int)).toNat 0)) (by rw [wrap_small (by omega) (by omega)]; exact hg.1)
    exact this
  · rw [decide_eq_false h3]
    refine ⟨rfl, ?_⟩
    have := key (IntKind.i64.wrap (IntKind.i64.wrap ((i : Int) * 37) + 11)) (by rw [wrap_small (i := (i : Int) * 37) (by omega) (by omega), wrap_small (by omega) (by omega)]; omega)
    exact this

end Go.Dv
