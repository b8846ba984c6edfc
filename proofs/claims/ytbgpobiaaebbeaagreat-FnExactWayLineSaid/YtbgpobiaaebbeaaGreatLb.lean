/- Bounds of indexes. -/
import Derived.Test.YtbgpobiaaebbeaaGreatLo
namespace Go.Dv
open Go.Cv

theorem beq_self (a : Nat) : a.beq a = true := Nat.beq_refl a
theorem idx_ok {i n : Nat} (h : i < n) : (decide (0 ≤ (i : Int)) && decide ((i : Int) < (n : Int))) = true := by rw [decide_eq_true (by omega), decide_eq_true (by omega)]; rfl
theorem idx_in {i n : Nat} (h : i < n) : decide ((i : Int) < (n : Int)) = true := decide_eq_true (by omega)
theorem idx_out (n : Nat) : decide ((n : Int) < (n : Int)) = false := decide_eq_false (by omega)
theorem blt_ok {i n : Nat} (h : i < n) : i.blt n = true := Nat.ble_eq_true_of_le h

end Go.Dv
