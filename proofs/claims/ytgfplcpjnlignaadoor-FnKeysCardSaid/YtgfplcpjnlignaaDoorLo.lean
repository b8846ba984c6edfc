/- Rounds of loops, from one to all; contracts by other words. -/
import Derived.Test.YtgfplcpjnlignaaDoorDt

namespace Go.Dv
open Go.Cv

section
variable {V O : Type} {step : V → Option (V ⊕ O)}

theorem runW_on {x y : V} (h : step x = some (.inl y)) : runW step x = runW step y := by rw [runW_eq, h]
theorem runW_out {x : V} {o : O} (h : step x = some (.inr o)) : runW step x = some o := by rw [runW_eq, h]

/-- a loop that counts -/
theorem runW_count {n : Nat} {mk : Nat → V} {o : O} (hs : ∀ i, i < n → step (mk i) = some (.inl (mk (i + 1)))) (he : step (mk n) = some (.inr o)) : runW step (mk 0) = some o := by
  have : ∀ k i, i + k = n → runW step (mk i) = some o := by
    intro k
    induction k with
    | zero => intro i h; obtain rfl : i = n := by omega
              exact runW_out he
    | succ k ih => intro i h; rw [runW_on (hs i (by omega))]; exact ih (i + 1) (by omega)
  exact this n 0 (by omega)

end

theorem wrap_small {i : Int} (h0 : -9223372036854775808 ≤ i) (h1 : i < 9223372036854775808) : IntKind.i64.wrap i = i := by
  unfold IntKind.wrap
  have e1 : (IntKind.i64.bits) = 64 := rfl
  simp [IntKind.signed, e1]
  omega
theorem wrap_succ {i : Nat} (h : i < 2 ^ 62) : IntKind.i64.wrap ((i : Int) + 1) = ((i + 1 : Nat) : Int) := by
  rw [wrap_small (by omega) (by omega)]; omega

end Go.Dv
